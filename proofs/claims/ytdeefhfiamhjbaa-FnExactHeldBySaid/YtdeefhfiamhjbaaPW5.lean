import Derived.Test.YtdeefhfiamhjbaaPH
import Derived.Test.YtdeefhfiamhjbaaLawW
namespace Go.Proofs.Ytdeefhfiamhjbaa.QB
open Go.RowKit Go.Joins Go.ChangeShapes Go.WideShapes Go.Proofs.YtdeefhfiamhjbaaW.PrintWords
set_option linter.unusedVariables false
theorem isRef_lt {L : List Bool} {x : Int} (h : G.isRefB L x = true) : x < (L.length : Int) := by
  unfold G.isRefB at h
  simp only [Bool.or_eq_true, beq_iff_eq, Bool.and_eq_true, decide_eq_true_eq] at h
  rcases h with h | ⟨h0, h1⟩
  · omega
  · by_cases hk : x.toNat < L.length
    · omega
    · rw [getD_neg (by omega)] at h1; cases h1
theorem good_parts {F : List (List Int)} {L : List Bool} {R : List Int} (h : G.goodHeapB F L R 12 = true) :
    F.length ≤ 12 ∧ L.length = F.length ∧ R.length ≤ 4 ∧ (∀ f ∈ F, f.length ≤ 3 ∧ ∀ x ∈ f, G.isRefB L x = true) ∧ ∀ x ∈ R, G.isRefB L x = true := by
  unfold G.goodHeapB at h
  simp only [Bool.and_eq_true, decide_eq_true_eq, List.all_eq_true, List.mem_range] at h
  obtain ⟨⟨⟨⟨h1, h2⟩, h3⟩, h4⟩, h5⟩ := h
  refine ⟨by omega, h2, h3, fun f hf => ?_, h5⟩
  obtain ⟨k, hk, rfl⟩ := List.getElem_of_mem hf
  have := h4 k hk
  simp only [List.getD_eq_getElem?_getD, List.getElem?_eq_getElem hk, Option.getD_some] at this
  exact ⟨this.1.1, this.2⟩
theorem good_ok {F : List (List Int)} {L : List Bool} {R : List Int} (h : G.goodHeapB F L R 12 = true) : G.ReachOk F R := by
  obtain ⟨h1, h2, h3, h4, h5⟩ := good_parts h
  exact ⟨by omega, fun x hx => by rw [← h2]; exact isRef_lt (h5 x hx), fun f hf => ⟨(h4 f hf).1, fun x hx => by rw [← h2]; exact isRef_lt ((h4 f hf).2 x hx)⟩⟩
theorem good_okFrom {F : List (List Int)} {L : List Bool} {R : List Int} (h : G.goodHeapB F L R 12 = true) : G.okFrom F R = true :=
  G.okFrom_iff.2 ⟨good_ok h, by have := (good_parts h).2.2.1; omega⟩
theorem isLive_lt {L : List Bool} {x : Int} (h : BK.isLiveB L x = true) : 0 ≤ x ∧ x < (L.length : Int) := by
  unfold BK.isLiveB at h
  simp only [Bool.and_eq_true, decide_eq_true_eq] at h
  refine ⟨h.1, ?_⟩
  by_cases hk : x.toNat < L.length
  · omega
  · rw [getD_neg (by omega)] at h; cases h.2
theorem goodPairs_parts {F : List (List Int)} {L : List Bool} {R : List Int} {l : List S74} (h : BK.goodPairsB F L R l = true) :
    G.goodHeapB F L R 12 = true ∧ l.length ≤ 10 ∧ ∀ p ∈ l, 0 ≤ p.f0 ∧ p.f0 < (F.length : Int) ∧ 0 ≤ p.f1 ∧ p.f1 < (F.length : Int) := by
  unfold BK.goodPairsB at h
  simp only [Bool.and_eq_true, decide_eq_true_eq, List.all_eq_true] at h
  obtain ⟨⟨h1, h2⟩, h3⟩ := h
  refine ⟨h1, by omega, fun p hp => ?_⟩
  have hl := (good_parts h1).2.1
  obtain ⟨a, b⟩ := isLive_lt (h3 p hp).1
  obtain ⟨c, d⟩ := isLive_lt (h3 p hp).2
  omega
/-- One pass, in the reference's loop. -/
theorem held_pass (F : List (List Int)) (L : List Bool) (R0 : List Int) (l : List S74) (hl : l.length ≤ 10) (hin : ∀ p ∈ l, 0 ≤ p.f0 ∧ p.f0 < (F.length : Int) ∧ 0 ≤ p.f1 ∧ p.f1 < (F.length : Int)) (n : Int) (d : Nat) : ∀ (i k m : Nat) (from_ : List Int) (out : List Bool) (more : Bool), i ≤ l.length → l.length - i = d → d + 1 + m ≤ k →
    G.ReachOk F from_ → out = G.seenB F from_ → from_.length + d ≤ 1048576 →
    ∃ k' from2, m ≤ k' ∧ G.ReachOk F from2 ∧ (BK.passB F (l.drop i) out more).1 = G.seenB F from2 ∧ from2.length ≤ from_.length + d ∧
      spec_l15Held.l1 k l from_ out n more l l.length i F L R0 = if (BK.passB F (l.drop i) out more).2 = true then spec_l15Held.l0 k' l from2 (BK.passB F (l.drop i) out more).1 (wrap64 (n + 1)) F L R0 else some ((BK.passB F (l.drop i) out more).1, n) := by
  induction d with
  | zero =>
    intro i k m from_ out more h0 hd hk ok ho hlen
    obtain ⟨k, rfl⟩ : ∃ m, k = m + 1 := ⟨k - 1, by omega⟩
    obtain rfl : i = l.length := by omega
    refine ⟨k, from_, by omega, ok, by rw [List.drop_length]; exact ho, by omega, ?_⟩
    simp only [spec_l15Held.l1]
    rw [if_neg (by omega), List.drop_length]; rfl
  | succ d ih =>
    intro i k m from_ out more h0 hd hk ok ho hlen
    obtain ⟨k, rfl⟩ : ∃ m, k = m + 1 := ⟨k - 1, by omega⟩
    have hi : i < l.length := by omega
    have hd2 : l.drop i = l[i] :: l.drop (i + 1) := List.drop_eq_getElem_cons hi
    obtain ⟨a0, a1, b0, b1⟩ := hin l[i] (List.getElem_mem hi)
    have hol : out.length = F.length := by rw [ho, G.seenB_length ok]
    have e0 : rdOf false out l[i].f0 = out.getD l[i].f0.toNat false := by unfold rdOf; simp
    have e1 : rdOf false out l[i].f1 = out.getD l[i].f1.toNat false := by unfold rdOf; simp
    have ok1 := BK.ok_one ok b1
    have ok2 : G.ReachOk F (from_ ++ [l[i].f1]) := ⟨ok.n, fun x hx => (List.mem_append.1 hx).elim (ok.fr x) (ok1.fr x), ok.rows⟩
    have hor : G.orB out (G.seenB F [l[i].f1]) = G.seenB F (from_ ++ [l[i].f1]) := by rw [G.seenB_append ok ok1, ho]
    have hc : ((i : Int) + 1) = ((i + 1 : Nat) : Int) := by omega
    by_cases hb : out.getD l[i].f0.toNat false = true ∧ out.getD l[i].f1.toNat false = false
    · have hp : BK.passB F (l.drop i) out more = BK.passB F (l.drop (i + 1)) (G.seenB F (from_ ++ [l[i].f1])) true := by
        rw [hd2]; simp only [BK.passB]; rw [if_pos hb, hor]
      obtain ⟨k', from2, h1, h2, h3, h4, h5⟩ := ih (i + 1) k m (from_ ++ [l[i].f1]) (G.seenB F (from_ ++ [l[i].f1])) true (by omega) (by omega) (by omega) ok2 rfl (by simp; omega)
      refine ⟨k', from2, h1, h2, by rw [hp]; exact h3, by simp at h4; omega, ?_⟩
      rw [hp, ← h5]
      simp only [spec_l15Held.l1]
      rw [if_pos (by omega), if_pos (by omega), if_pos (by omega), rdP' l i hi, if_pos a0, if_pos (by omega), e0, if_pos hb.1, if_pos b0, if_pos (by omega), e1, if_neg (by rw [hb.2]; simp), if_pos (by omega)]
      simp only [Option.bind_some]
      unfold spec_l5From.f
      rw [if_pos (G.okFrom_iff.2 ⟨ok2, by simp; omega⟩), wrap_in (x := (i : Int) + 1) (by omega) (by omega), hc]
      rfl
    · have hp : BK.passB F (l.drop i) out more = BK.passB F (l.drop (i + 1)) out more := by
        rw [hd2]; simp only [BK.passB]; rw [if_neg hb]
      obtain ⟨k', from2, h1, h2, h3, h4, h5⟩ := ih (i + 1) k m from_ out more (by omega) (by omega) (by omega) ok ho (by omega)
      refine ⟨k', from2, h1, h2, by rw [hp]; exact h3, by omega, ?_⟩
      rw [hp, ← h5]
      simp only [spec_l15Held.l1]
      rw [if_pos (by omega), if_pos (by omega), if_pos (by omega), rdP' l i hi, if_pos a0, if_pos (by omega), e0, wrap_in (x := (i : Int) + 1) (by omega) (by omega), hc]
      cases hs0 : out.getD l[i].f0.toNat false with
      | false => rw [if_neg (by simp)]
      | true =>
        have hs1 : out.getD l[i].f1.toNat false = true := by
          cases hs1 : out.getD l[i].f1.toNat false with
          | true => rfl
          | false => exact absurd ⟨hs0, hs1⟩ hb
        rw [if_pos rfl, if_pos b0, if_pos (by omega), e1, hs1, if_pos rfl]
/-- Pass after pass. -/
theorem held_go (F : List (List Int)) (L : List Bool) (R0 : List Int) (l : List S74) (hF : F.length ≤ 12) (hl : l.length ≤ 10) (hin : ∀ p ∈ l, 0 ≤ p.f0 ∧ p.f0 < (F.length : Int) ∧ 0 ≤ p.f1 ∧ p.f1 < (F.length : Int)) (g : Nat) : ∀ (n k : Nat) (from_ : List Int) (out : List Bool), BK.unm out < g → g * (l.length + 2) < k → n + g ≤ 1048576 →
    G.ReachOk F from_ → out = G.seenB F from_ → from_.length + g * l.length ≤ 1048576 →
    spec_l15Held.l0 k l from_ out (n : Int) F L R0 = some ((BK.heldGo F l g out n).1, ((BK.heldGo F l g out n).2 : Int)) := by
  induction g with
  | zero => intro n k from_ out h; omega
  | succ g ih =>
    intro n k from_ out hu hk hn ok ho hlen
    rw [Nat.add_mul, Nat.one_mul] at hlen hk
    obtain ⟨k, rfl⟩ : ∃ m, k = m + 1 := ⟨k - 1, by omega⟩
    have hol : out.length = F.length := by rw [ho, G.seenB_length ok]
    obtain ⟨k', from2, h1, h2, h3, h4, h5⟩ := held_pass F L R0 l hl hin n l.length 0 k (g * (l.length + 2) + 1) from_ out false (by omega) (by omega) (by omega) ok ho (by omega)
    have hpu := (BK.pass_unm ok l out false hin hol).2 rfl
    rw [List.drop_zero] at h3 h5
    simp only [spec_l15Held.l0]
    rw [show (0 : Int) = ((0 : Nat) : Int) from rfl, h5]
    simp only [BK.heldGo]
    split
    · next hm =>
      have := ih (n + 1) k' from2 (BK.passB F l out false).1 (by have := hpu hm; omega) (by omega) (by omega) h2 h3 (by omega)
      rw [wrap_in (by omega) (by omega), ← this]
      congr 1
    · rfl
theorem spec_held_eq (F : List (List Int)) (L : List Bool) (R : List Int) (l : List S74) (hg : BK.goodPairsB F L R l = true) (k : Nat) (hk : 200 < k) :
    spec_l15Held.f k F L R l = some ((BK.heldB F R l).1, ((BK.heldB F R l).2 : Int)) := by
  obtain ⟨g1, g2, g3⟩ := goodPairs_parts hg
  obtain ⟨q1, q2, q3, q4, q5⟩ := good_parts g1
  have ok := good_ok g1
  unfold spec_l15Held.f
  simp only [Option.bind_some, List.nil_append, List.length_nil]
  rw [if_pos (by omega)]
  unfold spec_l5From.f
  rw [if_pos (good_okFrom g1)]
  simp only [Option.bind_some]
  have hs := G.seenB_length ok
  have := held_go F L R l q1 g2 g3 (F.length + 1) 0 k R (G.seenB F R) (by have := BK.unm_le (G.seenB F R); omega) (by
    have h1 : (F.length + 1) * (l.length + 2) ≤ 13 * 12 := Nat.mul_le_mul (by omega) (by omega)
    omega) (by omega) ok rfl (by
    have h1 : (F.length + 1) * l.length ≤ 13 * 10 := Nat.mul_le_mul (by omega) (by omega)
    omega)
  exact this
theorem impl_held_eq (F : List (List Int)) (L : List Bool) (R : List Int) (l : List S74) (hg : BK.goodPairsB F L R l = true) :
    impl_heldWith.f F L R l = some ((BK.heldB F R l).1, ((BK.heldB F R l).2 : Int)) := by
  obtain ⟨g1, g2, g3⟩ := goodPairs_parts hg
  unfold impl_heldWith.f
  rw [if_pos ⟨good_okFrom g1, g3⟩]
/-- What has been marked stands as marked. -/
theorem heldIntS_eq (n : Nat) (hn : n ≤ 1048576) (k : Nat) (hk : n < k) : laws_heldIntS.f k (G.markI n 1) 1 = some (1 + (n : Int)) := by
  unfold laws_heldIntS.f
  have := loop_val (fun k i => laws_heldIntS.l0 k (G.markI n 1) (1 + (i : Int)) i) n 0 (some (1 + (n : Int))) ?_ ?_ k (by omega)
  · simpa using this
  · intro k i _ h
    simp only [laws_heldIntS.l0]
    have e : rd (G.markI n 1) (i : Int) = 1 + (i : Int) := by
      rw [rd_nat]; simp [G.markI, h]
    rw [if_pos (by rw [G.markI_length]; omega), if_pos (by omega), e, if_pos rfl, wrap_in (by omega) (by omega), wrap_in (by omega) (by omega)]
    rw [show 1 + (i : Int) + 1 = 1 + ((i + 1 : Nat) : Int) by omega, show (i : Int) + 1 = ((i + 1 : Nat) : Int) by omega]
  · intro k _
    simp only [laws_heldIntS.l0]
    rw [if_neg (by rw [G.markI_length]; omega)]
theorem heldGo_len {F : List (List Int)} {R : List Int} (ok : G.ReachOk F R) (l : List S74) (hp : BK.PairsIn F.length l) : ∀ (g : Nat) (out : List Bool) (n : Nat), out.length = F.length → (BK.heldGo F l g out n).1.length = F.length := by
  intro g
  induction g with
  | zero => intro out n h; exact h
  | succ g ih =>
    intro out n h
    have hl := BK.pass_len ok l out false hp h
    simp only [BK.heldGo]
    split
    · exact ih _ _ hl
    · exact hl
theorem heldB_len {F : List (List Int)} {L : List Bool} {R : List Int} {l : List S74} (hg : BK.goodPairsB F L R l = true) : (BK.heldB F R l).1.length = F.length := by
  obtain ⟨g1, g2, g3⟩ := goodPairs_parts hg
  have ok := good_ok g1
  exact heldGo_len ok l g3 _ _ _ (G.seenB_length ok)
/-- The places of the pairs with this key, if it is held. -/
def byL (a : Int) (h : Bool) : List S74 → Nat → List Int
  | [], _ => []
  | p :: ps, i => (if p.f0 = a ∧ h = true then [(i : Int)] else []) ++ byL a h ps (i + 1)
theorem byL_len (a : Int) (h : Bool) : ∀ (l : List S74) (i : Nat), (byL a h l i).length ≤ l.length := by
  intro l
  induction l with
  | nil => intro i; simp [byL]
  | cons p ps ih =>
    intro i
    simp only [byL, List.length_append, List.length_cons]
    have := ih (i + 1)
    split <;> simp <;> omega
theorem spec_HeldBy_loop (a : Int) (H : List Bool) (l : List S74) (h0 : 0 ≤ a) (h1 : a < (H.length : Int)) (hl : l.length ≤ 10) (d : Nat) : ∀ (i k : Nat) (acc : List Int), i ≤ l.length → l.length - i = d → acc.length ≤ i → d < k →
    spec_HeldBy.l0 k a H acc l l.length i = some (acc ++ byL a (H.getD a.toNat false) (l.drop i) i, true) := by
  induction d with
  | zero =>
    intro i k acc hi hd ha hk
    obtain ⟨k, rfl⟩ : ∃ m, k = m + 1 := ⟨k - 1, by omega⟩
    obtain rfl : i = l.length := by omega
    simp only [spec_HeldBy.l0]
    rw [if_neg (by omega), List.drop_length]; simp [byL]
  | succ d ih =>
    intro i k acc hi hd ha hk
    obtain ⟨k, rfl⟩ : ∃ m, k = m + 1 := ⟨k - 1, by omega⟩
    have hlt : i < l.length := by omega
    have hd2 : l.drop i = l[i] :: l.drop (i + 1) := List.drop_eq_getElem_cons hlt
    have e0 : rdOf false H a = H.getD a.toNat false := by unfold rdOf; simp
    have hc : ((i : Int) + 1) = ((i + 1 : Nat) : Int) := by omega
    simp only [spec_HeldBy.l0]
    rw [if_pos (by omega), if_pos (by omega), if_pos (by omega), rdP' l i hlt, wrap_in (by omega) (by omega), hc, hd2]
    simp only [byL]
    have n1 := ih (i + 1) k acc (by omega) (by omega) (by omega) (by omega)
    have n2 := ih (i + 1) k (acc ++ [(i : Int)]) (by omega) (by omega) (by simp; omega) (by omega)
    by_cases hp : l[i].f0 = a
    · rw [if_pos hp, if_pos h0, if_pos h1, e0]
      cases hh : H.getD a.toNat false with
      | true => rw [if_pos rfl, if_pos (by omega), if_pos ⟨hp, rfl⟩, n2, hh, List.append_assoc]
      | false => rw [if_neg (by simp), if_neg (by simp), n1, hh]; rfl
    · rw [if_neg hp, if_neg (fun h => hp h.1), n1]; rfl
theorem impl_HeldBy_loop (a : Int) (H : List Bool) (l : List S74) (h0 : 0 ≤ a) (h1 : a < (H.length : Int)) (hl : l.length ≤ 10) (d : Nat) : ∀ (i k : Nat) (acc : List Int), i ≤ l.length → l.length - i = d → acc.length ≤ i → d < k →
    impl_HeldBy.l0 k a H acc l l.length i = some (acc ++ byL a (H.getD a.toNat false) (l.drop i) i, true) := by
  induction d with
  | zero =>
    intro i k acc hi hd ha hk
    obtain ⟨k, rfl⟩ : ∃ m, k = m + 1 := ⟨k - 1, by omega⟩
    obtain rfl : i = l.length := by omega
    simp only [impl_HeldBy.l0]
    rw [if_neg (by omega), List.drop_length]; simp [byL]
  | succ d ih =>
    intro i k acc hi hd ha hk
    obtain ⟨k, rfl⟩ : ∃ m, k = m + 1 := ⟨k - 1, by omega⟩
    have hlt : i < l.length := by omega
    have hd2 : l.drop i = l[i] :: l.drop (i + 1) := List.drop_eq_getElem_cons hlt
    have e0 : rdOf false H a = H.getD a.toNat false := by unfold rdOf; simp
    have hc : ((i : Int) + 1) = ((i + 1 : Nat) : Int) := by omega
    simp only [impl_HeldBy.l0]
    rw [if_pos (by omega), if_pos (by omega), if_pos (by omega), rdP' l i hlt, wrap_in (by omega) (by omega), hc, hd2]
    simp only [byL]
    have n1 := ih (i + 1) k acc (by omega) (by omega) (by omega) (by omega)
    have n2 := ih (i + 1) k (acc ++ [(i : Int)]) (by omega) (by omega) (by simp; omega) (by omega)
    by_cases hp : l[i].f0 = a
    · rw [if_pos hp, if_pos h0, if_pos h1, e0]
      cases hh : H.getD a.toNat false with
      | true => rw [if_pos rfl, if_pos (by omega), if_pos ⟨hp, rfl⟩, n2, hh, List.append_assoc]
      | false => rw [if_neg (by simp), if_neg (by simp), n1, hh]; rfl
    · rw [if_neg hp, if_neg (fun h => hp h.1), n1]; rfl
def heldByB (F : List (List Int)) (L : List Bool) (R : List Int) (l : List S74) (a : Int) : List Int × Bool := if BK.goodPairsB F L R l = true ∧ BK.isLiveB L a = true then (byL a ((BK.heldB F R l).1.getD a.toNat false) l 0, true) else ([], false)
theorem spec_HeldBy_eq (F : List (List Int)) (L : List Bool) (R : List Int) (l : List S74) (a : Int) (hb : BigH F L R) (hn : l.length ≤ 1048576) (k : Nat) (hk : 2097170 < k) :
    spec_HeldBy.f k F L R l a = some ((heldByB F L R l a).1, (heldByB F L R l a).2) := by
  unfold spec_HeldBy.f heldByB
  rw [GoodPairs_eq F L R l hb hn k (by omega)]; simp only [Option.bind_some]
  obtain ⟨k, rfl⟩ : ∃ m, k = m + 1 := ⟨k - 1, by omega⟩
  cases hg : BK.goodPairsB F L R l with
  | false => simp [spec_HeldBy.j0]
  | true =>
    obtain ⟨g1, g2, g3⟩ := goodPairs_parts hg
    obtain ⟨q1, q2, _⟩ := good_parts g1
    rw [if_pos rfl, Thing_eq F L R a q2 (by omega)]
    simp only [Option.bind_some, spec_HeldBy.j0]
    have hlv : BK.isLiveB L a = (decide (0 ≤ a) && L.getD a.toNat false) := rfl
    rw [hlv]
    cases hv : (decide (0 ≤ a) && L.getD a.toNat false) with
    | false => simp
    | true =>
      have ha := isLive_lt (hlv.trans hv)
      rw [if_neg (by simp), spec_held_eq F L R l hg k (by omega)]
      simp only [Option.bind_some]
      have := spec_HeldBy_loop a (BK.heldB F R l).1 l ha.1 (by rw [heldB_len hg]; omega) g2 l.length 0 k [] (by omega) (by omega) (by simp) (by omega)
      rw [show (0 : Int) = ((0 : Nat) : Int) from rfl, this]
      simp
theorem impl_within_eq (a b c : Int) : impl_within.f a b c = some (decide (b ≤ a ∧ a ≤ c)) := by
  unfold impl_within.f
  by_cases h : b ≤ a
  · rw [if_pos h]; simp [h]
  · rw [if_neg (show ¬ a ≥ b from h)]; simp [h]
theorem impl_isLive_eq (F : List (List Int)) (L : List Bool) (R : List Int) (a : Int) (hL : L.length ≤ 1048576) : impl_Heap_isLive.f F L R a = some (BK.isLiveB L a) := by
  unfold impl_Heap_isLive.f BK.isLiveB
  rw [impl_within_eq, wrap_in (by omega) (by omega)]
  simp only [Option.bind_some]
  have e : rdOf false L a = L.getD a.toNat false := by unfold rdOf; simp
  by_cases h : 0 ≤ a ∧ a ≤ (L.length : Int) - 1
  · rw [decide_eq_true h, if_pos rfl, if_pos h.1, if_pos (by omega), e, decide_eq_true h.1, Bool.true_and]
  · rw [decide_eq_false h, if_neg (by simp)]
    by_cases h0 : 0 ≤ a
    · rw [getD_neg (by omega)]; simp
    · rw [decide_eq_false h0, Bool.false_and]
theorem impl_HeldBy_eq (F : List (List Int)) (L : List Bool) (R : List Int) (l : List S74) (a : Int) (hL : L.length ≤ 1048576) (k : Nat) (hk : 1000 < k) :
    impl_HeldBy.f k F L R l a = some ((heldByB F L R l a).1, (heldByB F L R l a).2) := by
  unfold impl_HeldBy.f impl_arePairs.f heldByB
  simp only [Option.bind_some]
  obtain ⟨k, rfl⟩ : ∃ m, k = m + 1 := ⟨k - 1, by omega⟩
  cases hg : BK.goodPairsB F L R l with
  | false => simp [impl_HeldBy.j0]
  | true =>
    obtain ⟨g1, g2, g3⟩ := goodPairs_parts hg
    obtain ⟨q1, q2, _⟩ := good_parts g1
    rw [if_pos rfl, impl_isLive_eq F L R a hL]
    simp only [Option.bind_some, impl_HeldBy.j0]
    cases hv : BK.isLiveB L a with
    | false => simp
    | true =>
      have ha := isLive_lt hv
      rw [if_neg (by simp), impl_held_eq F L R l hg]
      simp only [Option.bind_some]
      have := impl_HeldBy_loop a (BK.heldB F R l).1 l ha.1 (by rw [heldB_len hg]; omega) g2 l.length 0 k [] (by omega) (by omega) (by simp) (by omega)
      rw [show (0 : Int) = ((0 : Nat) : Int) from rfl, this]
      simp
theorem heldByB_len (F : List (List Int)) (L : List Bool) (R : List Int) (l : List S74) (a : Int) : (heldByB F L R l a).1.length ≤ 1048576 := by
  unfold heldByB
  split
  · next hg =>
    have h1 := byL_len a ((BK.heldB F R l).1.getD a.toNat false) l 0
    have h2 := (goodPairs_parts hg.1).2.1
    simp only; omega
  · simp
theorem HeldBy_calls (A0 A1 A2 : Option Addr) (c0 c1 c2 : Nat) (F : List (List Int)) (L : List Bool) (R : List Int) (AP : Option Addr) (cP : Nat) (l : List S79) (a2 : Int) (w : World) (hh : G.HeapAt w A0 A1 A2 c0 c1 c2 F L R) (hr : Kd.C k79 w AP l.length l) (hc : l.length ≤ cP) (hok : OkH F L R) (hl : l.length ≤ 9223372036854775807) :
    Calls Try.prog 7 #[.agg #[.slice A0 F.length c0, .slice A1 L.length c1, .slice A2 R.length c2], .slice AP l.length cP, .int .i64 a2] w fun e w' => e = .returned (.bool true) ∧ Below w.heap.size w w' := by
  obtain ⟨r, hr1, hb⟩ := szHeap_eq F L R hok 1048576 (by omega) (by omega) 2097180 (by omega)
  by_cases h : r < 0
  · exact HeldBy_small0 2097180 A0 A1 A2 c0 c1 c2 F L R AP cP l a2 w hh hr hc r (Lib.hid hr1) h
  · obtain ⟨b0, b1⟩ := hb (by omega)
    have hz := szPairS_eq l r (by omega) (by omega) hl
    by_cases h2 : (l.length : Int) ≤ r
    · rw [if_pos h2] at hz
      have hln : (l.map convP).length ≤ 1048576 := by simp; omega
      have hgl := heldByB_len F L R (l.map convP) a2
      exact HeldBy_law 2097180 A0 A1 A2 c0 c1 c2 F L R AP cP l a2 w hh hr hc (l.map convP) _ _ r _ (Lib.hid hr1) (by omega) (Lib.hid hz) (by omega) (Lib.hid (toHeap_eq F L R b1 2097180 (by omega))) (Lib.hid (toPairS_eq l (by omega) 2097180 (by omega)))
        (Lib.hid (spec_HeldBy_eq F L R _ a2 b1 hln 2097180 (by omega))) (Lib.hid (impl_HeldBy_eq F L R _ a2 b1.l 2097180 (by omega))) (Lib.hid (eqIntS_eq _ hgl 2097180 (by omega))) (Lib.hid (eqHeap_eq F L R b1 2097180 (by omega))) (Lib.hid (eqPairS_eq _ hln 2097180 (by omega)))
        (Lib.hid (heldIntS_eq _ hgl 2097180 (by omega))) b1.f.1 b1.f.2 b1.l b1.r hln hgl
    · rw [if_neg h2] at hz
      exact HeldBy_small1 2097180 A0 A1 A2 c0 c1 c2 F L R AP cP l a2 w hh hr hc r _ (Lib.hid hr1) (by omega) (Lib.hid hz) (by omega)

end Go.Proofs.Ytdeefhfiamhjbaa.QB
