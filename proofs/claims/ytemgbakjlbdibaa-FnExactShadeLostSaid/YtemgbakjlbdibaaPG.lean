import Derived.Test.YtemgbakjlbdibaaPH
import Derived.Test.YtemgbakjlbdibaaGsm
namespace Go.Proofs.Ytemgbakjlbdibaa.QB
open Go.RowKit Go.Joins Go.ChangeShapes Go.WideShapes Go.Proofs.YtemgbakjlbdibaaW.PrintWords
set_option linter.unusedVariables false
theorem isRef_lt {L : List Bool} {x : Int} (h : G.isRefB L x = true) : x < (L.length : Int) := by
  unfold G.isRefB at h
  simp only [Bool.or_eq_true, beq_iff_eq, Bool.and_eq_true, decide_eq_true_eq] at h
  rcases h with h | ⟨h0, h1⟩
  · omega
  · by_cases hk : x.toNat < L.length
    · omega
    · rw [getD_neg (by omega)] at h1; cases h1
theorem good_parts {F : List (List Int)} {L : List Bool} {R : List Int} (h : G.goodHeapB F L R 12 = true) :
    F.length ≤ 12 ∧ L.length = F.length ∧ R.length ≤ 4 ∧ (∀ f ∈ F, f.length ≤ 3 ∧ ∀ x ∈ f, G.isRefB L x = true) ∧ ∀ x ∈ R, G.isRefB L x = true := by
  unfold G.goodHeapB at h
  simp only [Bool.and_eq_true, decide_eq_true_eq, List.all_eq_true, List.mem_range] at h
  obtain ⟨⟨⟨⟨h1, h2⟩, h3⟩, h4⟩, h5⟩ := h
  refine ⟨by omega, h2, h3, fun f hf => ?_, h5⟩
  obtain ⟨k, hk, rfl⟩ := List.getElem_of_mem hf
  have := h4 k hk
  simp only [List.getD_eq_getElem?_getD, List.getElem?_eq_getElem hk, Option.getD_some] at this
  exact ⟨this.1.1, this.2⟩
theorem good_ok {F : List (List Int)} {L : List Bool} {R : List Int} (h : G.goodHeapB F L R 12 = true) : G.ReachOk F R := by
  obtain ⟨h1, h2, h3, h4, h5⟩ := good_parts h
  exact ⟨by omega, fun x hx => by rw [← h2]; exact isRef_lt (h5 x hx), fun f hf => ⟨(h4 f hf).1, fun x hx => by rw [← h2]; exact isRef_lt ((h4 f hf).2 x hx)⟩⟩
theorem good_okFrom {F : List (List Int)} {L : List Bool} {R : List Int} (h : G.goodHeapB F L R 12 = true) : G.okFrom F R = true :=
  G.okFrom_iff.2 ⟨good_ok h, by have := (good_parts h).2.2.1; omega⟩
/-- The places of what is true. -/
def lisB : List Bool → Nat → List Int
  | [], _ => []
  | b :: bs, i => (if b = true then [(i : Int)] else []) ++ lisB bs (i + 1)
theorem lisB_len : ∀ (l : List Bool) (i : Nat), (lisB l i).length ≤ l.length := by
  intro l
  induction l with
  | nil => intro i; simp [lisB]
  | cons b bs ih =>
    intro i
    simp only [lisB, List.length_append, List.length_cons]
    have := ih (i + 1)
    split <;> simp <;> omega
theorem impl_listed_go (l : List Bool) (hl : l.length ≤ 1000) (d : Nat) : ∀ (i k : Nat) (acc : List Int), i ≤ l.length → l.length - i = d → acc.length ≤ i → d < k →
    impl_listed.l0 k acc l l.length i = some (acc ++ lisB (l.drop i) i) := by
  induction d with
  | zero =>
    intro i k acc hi hd ha hk
    obtain ⟨k, rfl⟩ : ∃ m, k = m + 1 := ⟨k - 1, by omega⟩
    obtain rfl : i = l.length := by omega
    simp only [impl_listed.l0]
    rw [if_neg (by omega), List.drop_length]; simp [lisB]
  | succ d ih =>
    intro i k acc hi hd ha hk
    obtain ⟨k, rfl⟩ : ∃ m, k = m + 1 := ⟨k - 1, by omega⟩
    have hlt : i < l.length := by omega
    have hc : ((i : Int) + 1) = ((i + 1 : Nat) : Int) := by omega
    have ha2 : acc.length < 17592186044416 := by omega
    have n1 := ih (i + 1) k acc (by omega) (by omega) (by omega) (by omega)
    have n2 := ih (i + 1) k (acc ++ [(i : Int)]) (by omega) (by omega) (by simp; omega) (by omega)
    simp only [impl_listed.l0]
    rw [if_pos (by omega), if_pos (by omega), if_pos (by omega), rdOf_at l i hlt, wrap_in (by omega) (by omega), hc, List.drop_eq_getElem_cons hlt]
    simp only [lisB]
    cases hb : l[i] with
    | true => rw [if_pos rfl, if_pos ha2, if_pos rfl, n2, List.append_assoc]
    | false => rw [if_neg (show ¬ (false = true) by simp), if_neg (show ¬ (false = true) by simp), n1]; rfl
theorem impl_listed_eq (l : List Bool) (hl : l.length ≤ 1000) (k : Nat) (hk : l.length < k) : impl_listed.f k l = some (lisB l 0) := by
  unfold impl_listed.f
  have := impl_listed_go l hl l.length 0 k [] (by omega) (by omega) (by simp) (by omega)
  simpa using this
theorem all_eq (l : List Int) (hn : l.length ≤ 1048576) (k : Nat) (hk : l.length < k) : spec_l1All.f k l 0 2 = some (!(l.any fun x => !G.colourB x)) := by
  unfold spec_l1All.f
  have hloop := loop_all (fun k i => spec_l1All.l0 k 0 2 l l.length i) l.length 0 (fun i => G.colourB (l.getD i 0)) ?_ ?_ k (by omega)
  · rw [show (0 : Int) = ((0 : Nat) : Int) from rfl]
    refine hloop.trans ?_
    rw [range_all l 0 G.colourB, List.not_any_eq_all_not]
    simp
  · intro k i _ h
    have e : l.getD i 0 = l[i] := by simp [h]
    simp only [spec_l1All.l0]
    rw [if_pos (by omega), if_pos (by omega), if_pos (by omega), rd_at l i h, in_eq, e, wrap_in (by omega) (by omega)]
    rfl
  · intro k _
    simp only [spec_l1All.l0]; rw [if_neg (by omega)]
theorem both_eq (F : List (List Int)) (L : List Bool) (R : List Int) (l : List Int) (hb : BigH F L R) (k : Nat) (hk : 2097170 < k) (hl : l.length ≤ 1048576) : spec_l6Both.f k F L R l = some (G.colouredB F L R l) := by
  unfold spec_l6Both.f G.colouredB spec_l6Colours.f
  rw [GoodHeap_eq F L R hb k (by omega)]; simp only [Option.bind_some]
  cases hg : G.goodHeapB F L R 12 with
  | false => simp
  | true =>
    rw [if_pos rfl]
    by_cases h12 : (l.length : Int) ≤ 12
    · rw [if_pos h12, all_eq l (by omega) k (by omega)]
      simp only [Option.bind_some]
      rw [decide_eq_true (p := l.length ≤ 12) (by omega)]
      cases (l.any fun x => !G.colourB x) with
      | true => simp
      | false =>
        rw [if_pos (by simp)]
        by_cases he : l.length = F.length
        · simp [he]
        · have : ¬ ((l.length : Int) = (F.length : Int)) := by omega
          simp [he, this]
    · rw [if_neg h12, decide_eq_false (p := l.length ≤ 12) (by omega)]; simp
/-- Which are grey, which are white. -/
def greyB (l : List Int) (k : Nat) : Bool := (l.map fun c => c == 1).getD k false
def whiteB (l : List Int) : List Bool := l.map fun c => c == 0
theorem coloured_parts {F : List (List Int)} {L : List Bool} {R : List Int} {l : List Int} (h : G.colouredB F L R l = true) : G.goodHeapB F L R 12 = true ∧ l.length = F.length ∧ F.length ≤ 12 := by
  unfold G.colouredB at h
  simp only [Bool.and_eq_true, decide_eq_true_eq] at h
  exact ⟨h.1.1, h.2, (good_parts h.1.1).1⟩
theorem greyB_get (l : List Int) (k : Nat) (hk : k < l.length) : greyB l k = (l[k] == 1) := by unfold greyB; simp [hk]
theorem whiteB_get (l : List Int) (k : Nat) (hk : k < l.length) : (whiteB l).getD k false = (l[k] == 0) := by unfold whiteB; simp [hk]
/-- The program's way: whites and what the greys lead to. -/
theorem guard_loop (F : List (List Int)) (L : List Bool) (R : List Int) (l : List Int) (hl : l.length = F.length) (hF : F.length ≤ 12) (hrows : ∀ f ∈ F, f.length ≤ 3) (d : Nat) : ∀ (i k : Nat) (fr : List Int), i ≤ l.length → l.length - i = d → fr.length ≤ 3 * i → d < k →
    impl_guardedBy.l0 k ((whiteB l).take i ++ List.replicate (l.length - i) false) fr l l.length i F L R = impl_Heap_reach.f F L R (fr ++ ((List.range' i d).filter (greyB l)).flatMap fun k => F.getD k []) (whiteB l) := by
  induction d with
  | zero =>
    intro i k fr hi hd hfr hk
    obtain ⟨k, rfl⟩ : ∃ m, k = m + 1 := ⟨k - 1, by omega⟩
    obtain rfl : i = l.length := by omega
    simp only [impl_guardedBy.l0]
    rw [if_neg (by omega), List.take_of_length_le (by simp [whiteB])]
    simp
  | succ d ih =>
    intro i k fr hi hd hfr hk
    obtain ⟨k, rfl⟩ : ∃ m, k = m + 1 := ⟨k - 1, by omega⟩
    have hlt : i < l.length := by omega
    have hiF : i < F.length := by omega
    have hc : ((i : Int) + 1) = ((i + 1 : Nat) : Int) := by omega
    have hwl : (whiteB l).length = l.length := by simp [whiteB]
    have hst : ((whiteB l).take i ++ List.replicate (l.length - i) false).set i (l[i] == 0) = (whiteB l).take (i + 1) ++ List.replicate (l.length - (i + 1)) false := by
      have := copy_step (fun b : Bool => b) false (whiteB l) i (by omega)
      have e : (whiteB l)[i]'(by omega) = (l[i] == 0) := by simp [whiteB]
      rw [← e]
      simpa [hwl] using this
    have h3 := hrows F[i] (List.getElem_mem hiF)
    simp only [impl_guardedBy.l0]
    rw [if_pos (by omega), if_pos (by omega), if_pos (by omega), if_pos (by rw [List.length_append, List.length_take, List.length_replicate, hwl]; omega), rd_at l i hlt, Int.toNat_natCast, hst, wrap_in (by omega) (by omega), hc]
    simp only [Option.bind_some]
    rw [List.range'_succ, List.filter_cons, greyB_get l i hlt]
    by_cases h1 : l[i] = 1
    · rw [if_pos h1, if_pos (by omega), rdL2_at F i hiF, if_pos (by omega), if_pos (by simp [h1]), ih (i + 1) k (fr ++ F[i]) (by omega) (by omega) (by rw [List.length_append]; omega) (by omega), List.flatMap_cons, List.append_assoc]
      simp [hiF]
    · rw [if_neg h1, if_neg (by simp [h1]), ih (i + 1) k fr (by omega) (by omega) (by omega) (by omega)]
theorem greyFrom_ok {F : List (List Int)} (grey : Nat → Bool) (hF : F.length ≤ 12) (rows : ∀ f ∈ F, f.length ≤ 3 ∧ ∀ x ∈ f, x < (F.length : Int)) : G.ReachOk F (G.greyFrom F grey) :=
  ⟨by omega, fun x hx => by
    obtain ⟨k, hk, _, hx⟩ := G.mem_greyFrom.1 hx
    have : F.getD k [] = F[k] := by simp [hk]
    rw [this] at hx
    exact (rows F[k] (List.getElem_mem hk)).2 x hx, rows⟩
theorem flatMap_len (F : List (List Int)) (hrows : ∀ f ∈ F, f.length ≤ 3) (ks : List Nat) : (ks.flatMap fun k => F.getD k []).length ≤ 3 * ks.length := by
  induction ks with
  | nil => simp
  | cons k ks ih =>
    rw [List.flatMap_cons, List.length_append, List.length_cons]
    have : (F.getD k []).length ≤ 3 := by
      by_cases hk : k < F.length
      · have e : F.getD k [] = F[k] := by simp [hk]
        rw [e]; exact hrows _ (List.getElem_mem hk)
      · rw [getD_neg (by omega)]; simp
    omega
/-- What is guarded. -/
noncomputable def guardB (F : List (List Int)) (l : List Int) : List Bool := G.reachB F (G.greyFrom F (greyB l)) (fun k => (whiteB l).getD k false)
theorem impl_guardedBy_eq (F : List (List Int)) (L : List Bool) (R : List Int) (l : List Int) (hg : G.colouredB F L R l = true) (k : Nat) (hk : 100 < k) : impl_guardedBy.f k F L R l = some (guardB F l) := by
  obtain ⟨g1, hl, hF⟩ := coloured_parts hg
  have rows := (good_ok g1).rows
  unfold impl_guardedBy.f
  rw [if_pos (by omega), if_pos (by simp; omega), Int.toNat_natCast]
  have := guard_loop F L R l hl hF (fun f hf => (rows f hf).1) l.length 0 k [] (by omega) (by omega) (by simp) (by omega)
  rw [List.take_zero, List.nil_append, Nat.sub_zero, List.nil_append, ← List.range_eq_range', hl] at this
  rw [hl, show (0 : Int) = ((0 : Nat) : Int) from rfl, this]
  have ok := greyFrom_ok (greyB l) hF rows
  have hfl : (G.greyFrom F (greyB l)).length ≤ 1048576 := by
    have h1 := flatMap_len F (fun f hf => (rows f hf).1) ((List.range F.length).filter (greyB l))
    have h2 := List.length_filter_le (greyB l) (List.range F.length)
    rw [List.length_range] at h2
    unfold G.greyFrom
    omega
  unfold impl_Heap_reach.f
  rw [if_pos ⟨G.okFrom_iff.2 ⟨ok, hfl⟩, by simp [whiteB, hl]⟩]
  exact congrArg some (G.seenM_eq (whiteB l) ok)
def unmk (out : List Bool) : Nat := out.countP (fun b => !b)
theorem gStep_meas (W : Nat → Bool) (s : List Bool × List Int) (x : Int) (hx : x < (s.1.length : Int)) : 2 * unmk (G.gStep W s x).1 + (G.gStep W s x).2.length ≤ 2 * unmk s.1 + s.2.length := by
  unfold G.gStep
  split
  · next hc =>
    obtain ⟨h0, _, ho⟩ := hc
    have hn : x.toNat < s.1.length := by omega
    have e : s.1[x.toNat] = false := by simpa [hn] using ho
    unfold unmk
    have : (s.1.set x.toNat true).countP (fun b => !b) + 1 = s.1.countP (fun b => !b) := by
      rw [List.countP_set hn, e]
      have : 0 < s.1.countP (fun b => !b) := List.countP_pos_iff.2 ⟨s.1[x.toNat], List.getElem_mem hn, by rw [e]; rfl⟩
      simp; omega
    simp only [List.length_append, List.length_singleton]
    omega
  · exact Nat.le_refl _
theorem gFold_len (W : Nat → Bool) (row : List Int) : ∀ s : List Bool × List Int, (row.foldl (G.gStep W) s).1.length = s.1.length := by
  induction row with
  | nil => intro s; rfl
  | cons x row ih => intro s; rw [List.foldl_cons, ih, G.gStep_len]
theorem gFold_meas (W : Nat → Bool) (row : List Int) : ∀ s : List Bool × List Int, (∀ x ∈ row, x < (s.1.length : Int)) → 2 * unmk (row.foldl (G.gStep W) s).1 + (row.foldl (G.gStep W) s).2.length ≤ 2 * unmk s.1 + s.2.length := by
  induction row with
  | nil => intro s _; exact Nat.le_refl _
  | cons x row ih =>
    intro s h
    rw [List.foldl_cons]
    have h1 := ih (G.gStep W s x) (by rw [G.gStep_len]; exact fun y hy => h y (List.mem_cons_of_mem _ hy))
    have h2 := gStep_meas W s x (h x (by simp))
    omega
theorem sg_l1 (F : List (List Int)) (L : List Bool) (R : List Int) (l : List Int) (row : List Int) (hrow : ∀ x ∈ row, x < (l.length : Int)) (hr3 : row.length ≤ 3) (d : Nat) : ∀ (i k m : Nat) (out : List Bool) (q : List Int), i ≤ row.length → row.length - i = d → d + 1 + m ≤ k → out.length = l.length → q.length + d ≤ 100000 →
    ∃ k', m ≤ k' ∧ spec_l8Guarded.l1 k l out q row row.length i F L R = spec_l8Guarded.l0 k' l ((row.drop i).foldl (G.gStep fun k => (whiteB l).getD k false) (out, q)).1 ((row.drop i).foldl (G.gStep fun k => (whiteB l).getD k false) (out, q)).2 F L R := by
  induction d with
  | zero =>
    intro i k m out q hi hd hk ho hq
    obtain ⟨k, rfl⟩ : ∃ m, k = m + 1 := ⟨k - 1, by omega⟩
    obtain rfl : i = row.length := by omega
    refine ⟨k, by omega, ?_⟩
    simp only [spec_l8Guarded.l1]
    rw [if_neg (by omega), List.drop_length]; rfl
  | succ d ih =>
    intro i k m out q hi hd hk ho hq
    obtain ⟨k, rfl⟩ : ∃ m, k = m + 1 := ⟨k - 1, by omega⟩
    have hlt : i < row.length := by omega
    have hc : ((i : Int) + 1) = ((i + 1 : Nat) : Int) := by omega
    have hx := hrow row[i] (List.getElem_mem hlt)
    rw [List.drop_eq_getElem_cons hlt, List.foldl_cons]
    simp only [spec_l8Guarded.l1]
    rw [if_pos (by omega), if_pos (by omega), if_pos (by omega), rd_at row i hlt, wrap_in (by omega) (by omega), hc]
    by_cases h0 : 0 ≤ row[i]
    · have hn : row[i].toNat < l.length := by omega
      have el : rd l row[i] = l[row[i].toNat] := by unfold rd; simp [hn]
      have eo : rdOf false out row[i] = out.getD row[i].toNat false := by unfold rdOf; simp
      have ew : (whiteB l).getD row[i].toNat false = (l[row[i].toNat] == 0) := whiteB_get l _ hn
      rw [if_pos (show row[i] ≥ 0 from h0), if_pos h0, if_pos hx, el]
      by_cases hw : l[row[i].toNat] = 0
      · rw [if_pos hw, if_pos (by omega), eo]
        cases hb : out.getD row[i].toNat false with
        | true =>
          have hs : G.gStep (fun k => (whiteB l).getD k false) (out, q) row[i] = (out, q) := by unfold G.gStep; rw [if_neg (fun h => by have := h.2.2; simp only at this; rw [hb] at this; cases this)]
          rw [if_pos rfl, hs]
          exact ih (i + 1) k m out q (by omega) (by omega) (by omega) ho (by omega)
        | false =>
          have hs : G.gStep (fun k => (whiteB l).getD k false) (out, q) row[i] = (out.set row[i].toNat true, q ++ [row[i]]) := by unfold G.gStep; rw [if_pos ⟨h0, by simp only; rw [ew, hw]; rfl, hb⟩]
          rw [if_neg (by simp), if_pos (by omega), hs]
          exact ih (i + 1) k m _ _ (by omega) (by omega) (by omega) (by rw [List.length_set]; exact ho) (by rw [List.length_append, List.length_singleton]; omega)
      · have hs : G.gStep (fun k => (whiteB l).getD k false) (out, q) row[i] = (out, q) := by unfold G.gStep; rw [if_neg (fun h => by have := h.2.1; simp only at this; rw [ew] at this; simp [hw] at this)]
        rw [if_neg hw, hs]
        exact ih (i + 1) k m out q (by omega) (by omega) (by omega) ho (by omega)
    · have hs : G.gStep (fun k => (whiteB l).getD k false) (out, q) row[i] = (out, q) := by unfold G.gStep; rw [if_neg (fun h => h0 h.1)]
      rw [if_neg (show ¬ row[i] ≥ 0 from h0), hs]
      exact ih (i + 1) k m out q (by omega) (by omega) (by omega) ho (by omega)
theorem sg_l0 (F : List (List Int)) (L : List Bool) (R : List Int) (l : List Int) (hl : l.length = F.length) (hF : F.length ≤ 12) (rows : ∀ f ∈ F, f.length ≤ 3 ∧ ∀ x ∈ f, x < (F.length : Int)) (g : Nat) : ∀ (k : Nat) (out : List Bool) (q : List Int), G.GInv F (greyB l) (fun k => (whiteB l).getD k false) (fun _ => False) out q → 2 * unmk out + q.length < g → 6 * g < k → g ≤ 1000 →
    spec_l8Guarded.l0 k l out q F L R = some (guardB F l) := by
  induction g with
  | zero => intro k out q _ h; omega
  | succ g ih =>
    intro k out q hI hm hk hg
    obtain ⟨k, rfl⟩ : ∃ m, k = m + 1 := ⟨k - 1, by omega⟩
    cases q with
    | nil =>
      simp only [spec_l8Guarded.l0]
      rw [if_neg (by simp)]
      exact congrArg some (hI.stop (fun f hf => (rows f hf).2))
    | cons y rest =>
      obtain ⟨y0, y1, _⟩ := hI.inq y (by simp)
      obtain ⟨j, rfl⟩ := Int.eq_ofNat_of_zero_le y0
      have hj : j < F.length := by omega
      have hrow : F.getD j [] = F[j] := by simp [hj]
      have hr := rows F[j] (List.getElem_mem hj)
      have hlen : (((j : Int) :: rest).length : Int) = (rest.length : Int) + 1 := by rw [List.length_cons]; omega
      have e0 : rd ((j : Int) :: rest) 0 = (j : Int) := rfl
      have hp := hI.pop (fun f hf => (rows f hf).2)
      rw [Int.toNat_natCast, hrow] at hp
      simp only [List.length_cons] at hm
      obtain ⟨k', hk', e⟩ := sg_l1 F L R l F[j] (by rw [hl]; exact hr.2) hr.1 F[j].length 0 k (6 * g + 1) out rest (by omega) (by omega) (by omega) (by rw [hI.len, hl]) (by omega)
      have hme := gFold_meas (fun k => (whiteB l).getD k false) F[j] (out, rest) (by simp only; rw [hI.len]; exact hr.2)
      rw [List.drop_zero] at e
      simp only [spec_l8Guarded.l0]
      rw [if_pos (by rw [hlen]; omega), if_pos (by rw [hlen]; omega), if_pos (by rw [hlen]; omega), e0, if_pos y0, if_pos y1, rdL2_at F j hj, show ((j : Int) :: rest).drop (1 : Int).toNat = rest from rfl, show (0 : Int) = ((0 : Nat) : Int) from rfl, e]
      exact ih k' _ _ hp (by simp only at hme; omega) (by omega) (by omega)
theorem ofL_go (a : Int) (l : List Int) (hl : l.length ≤ 1000) (d : Nat) : ∀ (i k : Nat) (acc : List Int), i ≤ l.length → l.length - i = d → acc.length ≤ i → d < k →
    spec_l6Of.l0 k a acc l l.length i = some (acc ++ lisB ((l.drop i).map (· == a)) i) := by
  induction d with
  | zero =>
    intro i k acc hi hd ha hk
    obtain ⟨k, rfl⟩ : ∃ m, k = m + 1 := ⟨k - 1, by omega⟩
    obtain rfl : i = l.length := by omega
    simp only [spec_l6Of.l0]
    rw [if_neg (by omega), List.drop_length]; simp [lisB]
  | succ d ih =>
    intro i k acc hi hd ha hk
    obtain ⟨k, rfl⟩ : ∃ m, k = m + 1 := ⟨k - 1, by omega⟩
    have hlt : i < l.length := by omega
    have hc : ((i : Int) + 1) = ((i + 1 : Nat) : Int) := by omega
    have ha2 : acc.length < 17592186044416 := by omega
    have n1 := ih (i + 1) k acc (by omega) (by omega) (by omega) (by omega)
    have n2 := ih (i + 1) k (acc ++ [(i : Int)]) (by omega) (by omega) (by simp; omega) (by omega)
    simp only [spec_l6Of.l0]
    rw [if_pos (by omega), if_pos (by omega), if_pos (by omega), rd_at l i hlt, wrap_in (by omega) (by omega), hc, List.drop_eq_getElem_cons hlt, List.map_cons]
    simp only [lisB]
    by_cases h : l[i] = a
    · rw [if_pos h, if_pos ha2, if_pos (by simp [h]), n2, List.append_assoc]
    · rw [if_neg h, if_neg (by simp [h]), n1]; rfl
theorem mem_lisB : ∀ (l : List Bool) (i : Nat) (y : Int), y ∈ lisB l i ↔ ∃ j : Nat, j < l.length ∧ y = ((i + j : Nat) : Int) ∧ l.getD j false = true := by
  intro l
  induction l with
  | nil => intro i y; simp [lisB]
  | cons b bs ih =>
    intro i y
    simp only [lisB, List.mem_append, ih (i + 1) y]
    constructor
    · rintro (h | ⟨j, h1, h2, h3⟩)
      · split at h
        · next hb => simp at h; exact ⟨0, by simp, by omega, by simpa using hb⟩
        · cases h
      · exact ⟨j + 1, by simp; omega, by omega, by simpa using h3⟩
    · rintro ⟨j, h1, h2, h3⟩
      cases j with
      | zero => left; rw [if_pos (by simpa using h3)]; simp; omega
      | succ j => right; exact ⟨j, by simp at h1; omega, by omega, by simpa using h3⟩
theorem spec_guarded_eq (F : List (List Int)) (L : List Bool) (R : List Int) (l : List Int) (hg : G.colouredB F L R l = true) (k : Nat) (hk : 2000 < k) : spec_l8Guarded.f k F L R l = some (guardB F l) := by
  obtain ⟨g1, hl, hF⟩ := coloured_parts hg
  have rows := (good_ok g1).rows
  unfold spec_l8Guarded.f spec_l6Of.f
  have h6 := ofL_go 1 l (by omega) l.length 0 k [] (by omega) (by omega) (by simp) (by omega)
  rw [List.drop_zero, List.nil_append] at h6
  rw [if_pos (by omega), if_pos (by simp; omega), Int.toNat_natCast, show (0 : Int) = ((0 : Nat) : Int) from rfl, h6]
  simp only [Option.bind_some]
  have hq := lisB_len (l.map (· == 1)) 0
  rw [List.length_map] at hq
  have hun : unmk (List.replicate l.length false) = l.length := by unfold unmk; rw [List.countP_replicate]; simp
  have h0 : ∀ k, (List.replicate l.length false).getD k false = false := fun k => by
    rw [List.getD_eq_getElem?_getD, List.getElem?_replicate]; split <;> rfl
  refine sg_l0 F L R l hl hF rows 100 k _ _ ⟨by simp [hl], fun y hy => ?_, fun k hk => (by rw [h0] at hk; cases hk), fun k hk hgk => ?_⟩ (by rw [hun]; omega) (by omega) (by omega)
  · obtain ⟨j, h1, h2, h3⟩ := (mem_lisB _ _ _).1 hy
    rw [List.length_map] at h1
    refine ⟨by omega, by omega, .inl ?_⟩
    have : y.toNat = j := by omega
    rw [this]; exact h3
  · rcases hgk with hgk | hgk
    · exact .inl ((mem_lisB _ _ _).2 ⟨k, by rw [List.length_map]; omega, by omega, hgk⟩)
    · rw [h0] at hgk; cases hgk

end Go.Proofs.Ytemgbakjlbdibaa.QB
