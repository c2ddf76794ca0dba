import Derived.Test.YtemgbakjlbdibaaPG
import Derived.Test.YtemgbakjlbdibaaLawW
namespace Go.Proofs.Ytemgbakjlbdibaa.QB
open Go.RowKit Go.Joins Go.ChangeShapes Go.WideShapes Go.Proofs.YtemgbakjlbdibaaW.PrintWords
set_option linter.unusedVariables false
/-- What has been marked stands as marked. -/
theorem heldIntS_eq (n : Nat) (hn : n ≤ 1048576) (k : Nat) (hk : n < k) : laws_heldIntS.f k (G.markI n 1) 1 = some (1 + (n : Int)) := by
  unfold laws_heldIntS.f
  have := loop_val (fun k i => laws_heldIntS.l0 k (G.markI n 1) (1 + (i : Int)) i) n 0 (some (1 + (n : Int))) ?_ ?_ k (by omega)
  · simpa using this
  · intro k i _ h
    simp only [laws_heldIntS.l0]
    have e : rd (G.markI n 1) (i : Int) = 1 + (i : Int) := by
      rw [rd_nat]; simp [G.markI, h]
    rw [if_pos (by rw [G.markI_length]; omega), if_pos (by omega), e, if_pos rfl, wrap_in (by omega) (by omega), wrap_in (by omega) (by omega)]
    rw [show 1 + (i : Int) + 1 = 1 + ((i + 1 : Nat) : Int) by omega, show (i : Int) + 1 = ((i + 1 : Nat) : Int) by omega]
  · intro k _
    simp only [laws_heldIntS.l0]
    rw [if_neg (by rw [G.markI_length]; omega)]
theorem guardB_len (F : List (List Int)) (l : List Int) : (guardB F l).length = F.length := G.reachB_length _ _ _
/-- What is lost: reached, white, not guarded. -/
noncomputable def lostB (F : List (List Int)) (R : List Int) (l : List Int) (k : Nat) : Bool := (G.seenB F R).getD k false && (whiteB l).getD k false && !(guardB F l).getD k false
noncomputable def lostL (F : List (List Int)) (R : List Int) (l : List Int) : List Bool := (List.range F.length).map (lostB F R l)
theorem lostL_len (F : List (List Int)) (R : List Int) (l : List Int) : (lostL F R l).length = F.length := by simp [lostL]
theorem lostL_get (F : List (List Int)) (R : List Int) (l : List Int) (k : Nat) (hk : k < F.length) : (lostL F R l)[k]'(by rw [lostL_len]; exact hk) = lostB F R l k := by simp [lostL]
/-- The program's loop: the reached row is turned into the lost one in place. -/
theorem impl_lost_loop (F : List (List Int)) (R : List Int) (l : List Int) (hl : l.length = F.length) (hF : F.length ≤ 12) (hS : (G.seenB F R).length = F.length) (d : Nat) : ∀ (i k : Nat), i ≤ F.length → F.length - i = d → d + 20 < k →
    impl_lostIn.l0 k l ((lostL F R l).take i ++ (G.seenB F R).drop i) (guardB F l) F.length i = some (lisB (lostL F R l) 0) := by
  induction d with
  | zero =>
    intro i k hi hd hk
    obtain ⟨k, rfl⟩ : ∃ m, k = m + 1 := ⟨k - 1, by omega⟩
    obtain rfl : i = F.length := by omega
    simp only [impl_lostIn.l0]
    rw [if_neg (by omega), List.drop_eq_nil_of_le (by omega), List.append_nil, List.take_of_length_le (by rw [lostL_len]; exact Nat.le_refl _), impl_listed_eq _ (by rw [lostL_len]; omega) k (by rw [lostL_len]; omega)]; rfl
  | succ d ih =>
    intro i k hi hd hk
    obtain ⟨k, rfl⟩ : ∃ m, k = m + 1 := ⟨k - 1, by omega⟩
    have hlt : i < F.length := by omega
    have hc : ((i : Int) + 1) = ((i + 1 : Nat) : Int) := by omega
    have hLL := lostL_len F R l
    have hGL : (guardB F l).length = F.length := guardB_len F l
    have hlen : ((lostL F R l).take i ++ (G.seenB F R).drop i).length = F.length := by rw [List.length_append, List.length_take, List.length_drop]; omega
    have htl : ((lostL F R l).take i).length = i := by rw [List.length_take]; omega
    have hget : rdOf false ((lostL F R l).take i ++ (G.seenB F R).drop i) (i : Int) = (G.seenB F R).getD i false := by
      rw [rdOf_nat, List.getD_eq_getElem?_getD, List.getElem?_append_right (by omega), htl, Nat.sub_self, List.getElem?_drop, List.getD_eq_getElem?_getD]; rfl
    have hset : ((lostL F R l).take i ++ (G.seenB F R).drop i).set i (lostB F R l i) = (lostL F R l).take (i + 1) ++ (G.seenB F R).drop (i + 1) := by
      rw [List.set_append_right _ _ (by omega), htl, Nat.sub_self, List.take_succ_eq_append_getElem (by omega), List.append_assoc, lostL_get F R l i hlt, List.drop_eq_getElem_cons (by omega), List.set_cons_zero]; rfl
    have n1 := ih (i + 1) k (by omega) (by omega) (by omega)
    rw [← hset] at n1
    have hw : (whiteB l).getD i false = (l[i] == 0) := whiteB_get l i (by omega)
    have hb : lostB F R l i = ((G.seenB F R).getD i false && (l[i]'(by omega) == 0) && !(guardB F l).getD i false) := by unfold lostB; rw [hw]
    simp only [impl_lostIn.l0]
    rw [if_pos (by omega), if_pos (by omega), if_pos (by omega), hget, rd_at l i (by omega), rdOf_nat, Int.toNat_natCast, wrap_in (by omega) (by omega), hc]
    rw [hb] at n1
    cases hs : (G.seenB F R).getD i false with
    | false =>
      rw [if_neg (by simp)]
      rw [hs] at n1
      simpa using n1
    | true =>
      rw [if_pos rfl, if_pos (by omega)]
      rw [hs] at n1
      by_cases h0 : l[i]'(by omega) = 0
      · rw [if_pos h0, if_pos (by omega)]
        rw [h0] at n1
        simpa using n1
      · rw [if_neg h0]
        have : (l[i]'(by omega) == 0) = false := by simpa using h0
        rw [this] at n1
        simpa using n1
theorem spec_lost_loop (F : List (List Int)) (R : List Int) (l : List Int) (hl : l.length = F.length) (hF : F.length ≤ 12) (hS : (G.seenB F R).length = F.length) (d : Nat) : ∀ (i k : Nat) (acc : List Int), i ≤ F.length → F.length - i = d → acc.length ≤ i → d < k →
    spec_l8Lost.l0 k l (guardB F l) acc (G.seenB F R) F.length i = some (acc ++ lisB ((lostL F R l).drop i) i) := by
  induction d with
  | zero =>
    intro i k acc hi hd ha hk
    obtain ⟨k, rfl⟩ : ∃ m, k = m + 1 := ⟨k - 1, by omega⟩
    obtain rfl : i = F.length := by omega
    simp only [spec_l8Lost.l0]
    rw [if_neg (by omega), List.drop_eq_nil_of_le (by rw [lostL_len]; exact Nat.le_refl _)]; simp [lisB]
  | succ d ih =>
    intro i k acc hi hd ha hk
    obtain ⟨k, rfl⟩ : ∃ m, k = m + 1 := ⟨k - 1, by omega⟩
    have hlt : i < F.length := by omega
    have hc : ((i : Int) + 1) = ((i + 1 : Nat) : Int) := by omega
    have hGL : (guardB F l).length = F.length := guardB_len F l
    have ha2 : acc.length < 17592186044416 := by omega
    have n1 := ih (i + 1) k acc (by omega) (by omega) (by omega) (by omega)
    have n2 := ih (i + 1) k (acc ++ [(i : Int)]) (by omega) (by omega) (by simp; omega) (by omega)
    have hw : (whiteB l).getD i false = (l[i] == 0) := whiteB_get l i (by omega)
    have hb : lostB F R l i = ((G.seenB F R).getD i false && (l[i]'(by omega) == 0) && !(guardB F l).getD i false) := by unfold lostB; rw [hw]
    rw [List.drop_eq_getElem_cons (by rw [lostL_len]; exact hlt), lostL_get F R l i hlt, hb]
    simp only [spec_l8Lost.l0, lisB]
    rw [if_pos (by omega), if_pos (by omega), if_pos (by omega), rdOf_nat, rdOf_nat, rd_at l i (by omega), wrap_in (by omega) (by omega), hc]
    cases hs : (G.seenB F R).getD i false with
    | false => rw [if_neg (by simp), if_neg (by simp), n1]; rfl
    | true =>
      rw [if_pos rfl, if_pos (by omega)]
      by_cases h0 : l[i]'(by omega) = 0
      · rw [if_pos h0, if_pos (by omega)]
        cases hgd : (guardB F l).getD i false with
        | true => rw [if_pos rfl, if_neg (by simp), n1]; rfl
        | false => rw [if_neg (by simp), if_pos ha2, if_pos (by simp [h0]), n2, List.append_assoc]
      · rw [if_neg h0, if_neg (by simp [h0]), n1]; rfl
noncomputable def lostInB (F : List (List Int)) (L : List Bool) (R : List Int) (l : List Int) : List Int × Bool := if G.colouredB F L R l = true then (lisB (lostL F R l) 0, true) else ([], false)
theorem spec_lost_eq (F : List (List Int)) (L : List Bool) (R : List Int) (l : List Int) (hg : G.colouredB F L R l = true) (k : Nat) (hk : 2000 < k) : spec_l8Lost.f k F L R l = some (lisB (lostL F R l) 0) := by
  obtain ⟨g1, hl, hF⟩ := coloured_parts hg
  have ok := good_ok g1
  have hS := G.seenB_length ok
  unfold spec_l8Lost.f spec_l5Reached.f spec_l5From.f
  rw [spec_guarded_eq F L R l hg k hk, if_pos (good_okFrom g1)]
  simp only [Option.bind_some]
  have := spec_lost_loop F R l hl hF hS F.length 0 k [] (by omega) (by omega) (by simp) (by omega)
  rw [hS, show (0 : Int) = ((0 : Nat) : Int) from rfl, this]; simp
theorem impl_lost_eq (F : List (List Int)) (L : List Bool) (R : List Int) (l : List Int) (hg : G.colouredB F L R l = true) (k : Nat) (hk : 2000 < k) : impl_lostIn.f k F L R l = some (lisB (lostL F R l) 0) := by
  obtain ⟨g1, hl, hF⟩ := coloured_parts hg
  have ok := good_ok g1
  have hS := G.seenB_length ok
  unfold impl_lostIn.f impl_Heap_reached.f
  rw [if_pos (good_okFrom g1)]
  simp only [Option.bind_some]
  rw [impl_guardedBy_eq F L R l hg k (by omega)]
  simp only [Option.bind_some]
  have := impl_lost_loop F R l hl hF hS F.length 0 k (by omega) (by omega) (by omega)
  rw [List.take_zero, List.nil_append, List.drop_zero] at this
  rw [hS, show (0 : Int) = ((0 : Nat) : Int) from rfl, this]
theorem lost_head {F : List (List Int)} {R : List Int} {l : List Int} (hl : l.length = F.length) {k : Int} {rest : List Int} (h : lisB (lostL F R l) 0 = k :: rest) : ∃ j : Nat, k = (j : Int) ∧ j < l.length ∧ l.getD j 0 = 0 := by
  have hm : k ∈ lisB (lostL F R l) 0 := by rw [h]; simp
  obtain ⟨j, h1, h2, h3⟩ := (mem_lisB _ _ _).1 hm
  rw [lostL_len] at h1
  refine ⟨j, by omega, by omega, ?_⟩
  have hj : j < (lostL F R l).length := by rw [lostL_len]; exact h1
  rw [List.getD_eq_getElem?_getD, List.getElem?_eq_getElem hj, Option.getD_some, lostL_get F R l j h1] at h3
  unfold lostB at h3
  simp only [Bool.and_eq_true] at h3
  have := h3.1.2
  rw [whiteB_get l j (by omega)] at this
  have hjl : j < l.length := by omega
  simpa [hjl] using this
theorem coloured_set {F : List (List Int)} {L : List Bool} {R : List Int} {l : List Int} (h : G.colouredB F L R l = true) (j : Nat) : G.colouredB F L R (l.set j 1) = true := by
  unfold G.colouredB at h ⊢
  simp only [Bool.and_eq_true, decide_eq_true_eq, List.length_set, Bool.not_eq_true'] at h ⊢
  refine ⟨⟨h.1.1, h.1.2.1, ?_⟩, h.2⟩
  have h2 := h.1.2.2
  rw [List.any_eq_false] at h2 ⊢
  intro x hx
  rcases List.mem_or_eq_of_mem_set hx with hx | rfl
  · exact h2 x hx
  · simp [G.colourB]
def whites (l : List Int) : Nat := l.countP (fun x => x == 0)
theorem whites_set (l : List Int) (j : Nat) (hj : j < l.length) (h : l.getD j 0 = 0) : whites (l.set j 1) + 1 = whites l := by
  have e : l[j] = 0 := by simpa [hj] using h
  unfold whites
  rw [List.countP_set hj, e]
  have : 0 < l.countP (fun x => x == 0) := List.countP_pos_iff.2 ⟨l[j], List.getElem_mem hj, by rw [e]; rfl⟩
  simp; omega
theorem whites_le (l : List Int) : whites l ≤ l.length := List.countP_le_length
/-- Shading the first lost object, as long as there is one. -/
noncomputable def shadeGo (F : List (List Int)) (R : List Int) : Nat → List Int → Nat → List Int × Nat
  | 0, l, n => (l, n)
  | g + 1, l, n => if lisB (lostL F R l) 0 = [] then (l, n) else shadeGo F R g (l.set ((lisB (lostL F R l) 0).getD 0 0).toNat 1) (n + 1)
theorem shadeGo_len (F : List (List Int)) (R : List Int) : ∀ (g : Nat) (l : List Int) (n : Nat), (shadeGo F R g l n).1.length = l.length := by
  intro g
  induction g with
  | zero => intro l n; rfl
  | succ g ih =>
    intro l n
    simp only [shadeGo]
    split
    · rfl
    · rw [ih, List.length_set]
noncomputable def shadeLostB (F : List (List Int)) (L : List Bool) (R : List Int) (l : List Int) : List Int × Int × Bool := if G.colouredB F L R l = true then ((shadeGo F R 13 l 0).1, ((shadeGo F R 13 l 0).2 : Int), true) else ([], 0, false)
theorem shadeLost_parts {F : List (List Int)} {L : List Bool} {R : List Int} {l : List Int} (hc : G.colouredB F L R l = true) {x : Int} {rest : List Int} (h : lisB (lostL F R l) 0 = x :: rest) : ∃ j : Nat, x = (j : Int) ∧ spec_l6Shade.f l x = some (l.set j 1) ∧ impl_shade.f l x = some (l.set j 1) ∧ G.colouredB F L R (l.set j 1) = true ∧ whites (l.set j 1) + 1 = whites l := by
  obtain ⟨j, rfl, hj, h0⟩ := lost_head (coloured_parts hc).2.1 h
  have e : l[j] = 0 := by simpa [hj] using h0
  refine ⟨j, rfl, ?_, ?_, coloured_set hc j, whites_set l j hj h0⟩
  · unfold spec_l6Shade.f
    rw [if_pos (by omega), if_pos (by omega), if_pos (by omega), rd_at l j hj, if_pos e, Int.toNat_natCast]
  · unfold impl_shade.f
    rw [if_pos (by omega), if_pos (by omega), if_pos (by omega), rd_at l j hj, if_pos e, Int.toNat_natCast]
theorem spec_shade_loop (F : List (List Int)) (L : List Bool) (R : List Int) : ∀ (g : Nat) (l : List Int) (n k : Nat), G.colouredB F L R l = true → whites l < g → n + whites l < 1000 → g + 2010 < k →
    spec_ShadeLost.l0 k l (n : Int) (lisB (lostL F R l) 0) F L R = some ((shadeGo F R g l n).1, ((shadeGo F R g l n).2 : Int), true) := by
  intro g
  induction g with
  | zero => intro l n k hc hw; omega
  | succ g ih =>
    intro l n k hc hw hn hk
    obtain ⟨k, rfl⟩ : ∃ m, k = m + 1 := ⟨k - 1, by omega⟩
    have hcast : ((n : Int) + 1) = ((n + 1 : Nat) : Int) := by omega
    rcases hcase : lisB (lostL F R l) 0 with _ | ⟨x, rest⟩
    · simp only [spec_ShadeLost.l0, shadeGo]
      rw [if_neg (by simp), if_pos hcase]
    · obtain ⟨j, rfl, hs, _, hc2, hw2⟩ := shadeLost_parts hc hcase
      simp only [spec_ShadeLost.l0, shadeGo]
      rw [if_pos (by simp), if_pos (by simp), show rd ((j : Int) :: rest) 0 = (j : Int) from rfl, hs]
      simp only [Option.bind_some]
      rw [spec_lost_eq F L R _ hc2 k (by omega), hcase]
      simp only [Option.bind_some]
      rw [wrap_in (by omega) (by omega), hcast, ih _ (n + 1) k hc2 (by omega) (by omega) (by omega), if_neg (by simp)]
      simp
theorem impl_shade_loop (F : List (List Int)) (L : List Bool) (R : List Int) : ∀ (g : Nat) (l : List Int) (n k : Nat), G.colouredB F L R l = true → whites l < g → n + whites l < 1000 → g + 2010 < k →
    impl_ShadeLost.l0 k l (n : Int) (lisB (lostL F R l) 0) F L R = some ((shadeGo F R g l n).1, ((shadeGo F R g l n).2 : Int), true) := by
  intro g
  induction g with
  | zero => intro l n k hc hw; omega
  | succ g ih =>
    intro l n k hc hw hn hk
    obtain ⟨k, rfl⟩ : ∃ m, k = m + 1 := ⟨k - 1, by omega⟩
    have hcast : ((n : Int) + 1) = ((n + 1 : Nat) : Int) := by omega
    rcases hcase : lisB (lostL F R l) 0 with _ | ⟨x, rest⟩
    · simp only [impl_ShadeLost.l0, shadeGo]
      rw [if_neg (by simp), if_pos hcase]
    · obtain ⟨j, rfl, _, hs, hc2, hw2⟩ := shadeLost_parts hc hcase
      simp only [impl_ShadeLost.l0, shadeGo]
      rw [if_pos (by simp), if_pos (by simp), show rd ((j : Int) :: rest) 0 = (j : Int) from rfl, hs]
      simp only [Option.bind_some]
      rw [impl_lost_eq F L R _ hc2 k (by omega), hcase]
      simp only [Option.bind_some]
      rw [wrap_in (by omega) (by omega), hcast, ih _ (n + 1) k hc2 (by omega) (by omega) (by omega), if_neg (by simp)]
      simp
theorem spec_ShadeLost_eq (F : List (List Int)) (L : List Bool) (R : List Int) (l : List Int) (hb : BigH F L R) (hl : l.length ≤ 1048576) (k : Nat) (hk : 2097170 < k) : spec_ShadeLost.f k F L R l = some ((shadeLostB F L R l).1, (shadeLostB F L R l).2.1, (shadeLostB F L R l).2.2) := by
  unfold spec_ShadeLost.f shadeLostB
  rw [both_eq F L R l hb k (by omega) hl]; simp only [Option.bind_some]
  cases hg : G.colouredB F L R l with
  | false => simp
  | true =>
    have hw := whites_le l
    obtain ⟨_, h1, h2⟩ := coloured_parts hg
    rw [if_pos rfl, if_pos (by simp; omega)]
    simp only [List.nil_append]
    rw [spec_lost_eq F L R l hg k (by omega)]
    simp only [Option.bind_some]
    have := spec_shade_loop F L R 13 l 0 k hg (by omega) (by omega) (by omega)
    rw [show (0 : Int) = ((0 : Nat) : Int) from rfl]; exact this
theorem impl_ShadeLost_eq (F : List (List Int)) (L : List Bool) (R : List Int) (l : List Int) (hl : l.length ≤ 1048576) (k : Nat) (hk : 2100 < k) : impl_ShadeLost.f k F L R l = some ((shadeLostB F L R l).1, (shadeLostB F L R l).2.1, (shadeLostB F L R l).2.2) := by
  unfold impl_ShadeLost.f shadeLostB impl_areColoured.f slices_Clone_int_int.f
  simp only [Option.bind_some]
  cases hg : G.colouredB F L R l with
  | false => simp
  | true =>
    have hw := whites_le l
    obtain ⟨_, h1, h2⟩ := coloured_parts hg
    rw [if_pos rfl, if_pos (by omega)]
    simp only [Option.bind_some]
    rw [impl_lost_eq F L R l hg k (by omega)]
    simp only [Option.bind_some]
    have := impl_shade_loop F L R 13 l 0 k hg (by omega) (by omega) (by omega)
    rw [show (0 : Int) = ((0 : Nat) : Int) from rfl]; exact this
theorem shadeLostB_len (F : List (List Int)) (L : List Bool) (R : List Int) (l : List Int) : (shadeLostB F L R l).1.length ≤ 1048576 := by
  unfold shadeLostB
  split
  · next hg =>
    obtain ⟨_, h1, h2⟩ := coloured_parts hg
    simp only; rw [shadeGo_len]; omega
  · simp
theorem ShadeLost_calls (A0 A1 A2 : Option Addr) (c0 c1 c2 : Nat) (F : List (List Int)) (L : List Bool) (R : List Int) (AP : Option Addr) (cP : Nat) (l : List Int) (w : World) (hh : G.HeapAt w A0 A1 A2 c0 c1 c2 F L R) (hr : Kd.C (Kd.int .i64) w AP l.length l) (hc : l.length ≤ cP) (hok : OkH F L R) (hl : l.length ≤ 9223372036854775807) :
    Calls Try.prog 13 #[.agg #[.slice A0 F.length c0, .slice A1 L.length c1, .slice A2 R.length c2], .slice AP l.length cP] w fun e w' => e = .returned (.bool true) ∧ Below w.heap.size w w' := by
  by_cases hq : (l.length : Int) > 1048576
  · exact ShadeLost_smallA 2097180 A0 A1 A2 c0 c1 c2 F L R AP cP l w hh hr hc hq
  obtain ⟨r, hr1, hb⟩ := szHeap_eq F L R hok 1048576 (by omega) (by omega) 2097180 (by omega)
  by_cases h : r < 0
  · exact ShadeLost_small0 2097180 A0 A1 A2 c0 c1 c2 F L R AP cP l w hh hr hc hq r (Lib.hid hr1) h
  · obtain ⟨b0, b1⟩ := hb (by omega)
    have hgl := shadeLostB_len F L R l
    exact ShadeLost_law 2097180 A0 A1 A2 c0 c1 c2 F L R AP cP l w hh hr hc hq r (Lib.hid hr1) (by omega) _ _ _ (Lib.hid (toHeap_eq F L R b1 2097180 (by omega))) (Lib.hid (toIntS_eq l (by omega) 2097180 (by omega)))
      (Lib.hid (spec_ShadeLost_eq F L R l b1 (by omega) 2097180 (by omega))) (Lib.hid (impl_ShadeLost_eq F L R l (by omega) 2097180 (by omega))) (Lib.hid (eqIntS_eq _ hgl 2097180 (by omega))) (Lib.hid (eqHeap_eq F L R b1 2097180 (by omega)))
      (Lib.hid (eqIntS_eq l (by omega) 2097180 (by omega))) (by omega) (Lib.hid (heldIntS_eq _ hgl 2097180 (by omega))) b1.f.1 b1.f.2 b1.l b1.r hgl

end Go.Proofs.Ytemgbakjlbdibaa.QB
