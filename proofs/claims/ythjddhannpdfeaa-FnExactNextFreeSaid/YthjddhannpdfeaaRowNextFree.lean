/- The program's NextFree answers what the reference's answers, and leaves its argument as it was, for all arguments. No condition. -/
import Derived.Test.YthjddhannpdfeaaRows
import Derived.Test.YthjddhannpdfeaaBNextFree3
import Derived.Laws.BitsLemmas
import Derived.WalkKit
import Derived.ProofKit
import Derived.OpenShut
import Derived.ShutString
import Derived.ChangeOld
import Derived.Below
import Derived.Carry
import Derived.SizedLaws
import Derived.Lib.SmallJoins
namespace Go.Proofs.Ythjddhannpdfeaa.fnExactNextFree
open Go.ChangeShapes Go.WideShapes Go.ChangeAt Go.RowKit Go.Joins
set_option linter.unusedVariables false
open Go.Proofs.YthjddhannpdfeaaW.PrintWords in
/-- A slice of ints, opened as the printed contracts want it. -/
theorem open_ints_C {H : Type} {enc : TypeId × Value → H} {P : Program} {W : World} {base : Nat} {spare : Nat → Bool} {held : Bool} {t e : TypeId} {fuel : Nat} {v : Value} {x : DataW H × List MemPlace}
    (ht : P.underlying t = some (.slice e)) (he : P.underlying e = some (.int .i64)) (hc : P.cellsOf e = 1) (h : DataW.trod enc P W base spare held fuel t [v] = some x) :
    ∃ (A : Option Addr) (l : List Int) (c : Nat), v = .slice A l.length c ∧ l.length ≤ c ∧ l.length ≤ 9223372036854775807 ∧ Kd.C (Kd.int .i64) W A l.length l ∧ (∀ n ∈ l, (Lit.int .i64 n).wf = true) := by
  rcases open_ints ht he hc h with ⟨hcs, _⟩ | ⟨a, len, cap, zs, hcs, _, hl, hm, hz, _, hcell, hwz⟩
  · simp only [List.cons.injEq, and_true] at hcs
    exact ⟨none, [], 0, hcs, by simp, by simp, ⟨rfl, by simp, fun h0 => absurd h0 (by simp)⟩, by simp⟩
  · simp only [List.cons.injEq, and_true] at hcs
    have hle : len ≤ zs.length := by rw [hz]; split <;> omega
    have hlen : (zs.take len).length = len := by rw [List.length_take]; omega
    have hmx : cap ≤ 9223372036854775807 := by simpa [maxLen] using hm
    refine ⟨some a, zs.take len, cap, by rw [hcs, hlen], by omega, by omega, ⟨rfl, by omega, fun _ => ⟨a, rfl, fun j p hp => ⟨[.int .i64 p], rfl, rfl, fun i u hu => ?_⟩⟩⟩, fun n hn => hwz n (List.mem_of_mem_take hn)⟩
    have hj : j < (zs.take len).length := (List.getElem?_eq_some_iff.1 hp).1
    obtain rfl : i = 0 := by
      rcases i with _ | i
      · rfl
      · simp at hu
    simp only [List.getElem?_cons_zero, Option.some.injEq] at hu
    subst hu
    have h1 := hcell j (by omega)
    have h2 : zs.getD j 0 = p := by
      rw [List.getElem?_take, if_pos (by omega)] at hp
      simp [List.getD_eq_getElem?_getD, hp]
    rw [h2] at h1
    show W.cell? (a.add (j * 1 + 0)) = _
    simpa using h1
open Go.Proofs.Ythjddhannpdfeaa.PFnExactNextFree Go.Proofs.YthjddhannpdfeaaW.PrintWords Go.Proofs.YthjddhannpdfeaaW.PrintLast Go.Proofs.YthjddhannpdfeaaW.PrintMore
open Classical
/-! plain laws -/
theorem wrap_in {x : Int} (h0 : -9223372036854775808 ≤ x) (h1 : x ≤ 9223372036854775807) : wrap64 x = x := by unfold wrap64; omega
theorem in_eq (a b c : Int) : impl_within.f a b c = some (decide (b ≤ a ∧ a ≤ c)) := by
  unfold impl_within.f; by_cases h : a ≥ b
  · rw [if_pos h]; simp [h]
  · rw [if_neg h]; simp; omega
theorem in_eq' (a b c : Int) : spec_l1In.f a b c = some (decide (b ≤ a ∧ a ≤ c)) := in_eq a b c
theorem rd_nat (l : List Int) (i : Nat) : rd l (i : Int) = l.getD i 0 := by unfold rd; simp
theorem rd_at (l : List Int) (i : Nat) (h : i < l.length) : rd l (i : Int) = l[i] := by rw [rd_nat]; simp [h]
theorem toIntS_go (l : List Int) (hn : l.length ≤ 1048576) (d : Nat) : ∀ (k i : Nat), i ≤ l.length → l.length - i = d → d < k → laws_toIntS.l0 k l (l.take i ++ List.replicate (l.length - i) 0) i = some l := by
  induction d with
  | zero =>
    intro k i h0 hd hk
    obtain ⟨k, rfl⟩ : ∃ m, k = m + 1 := ⟨k - 1, by omega⟩
    obtain rfl : i = l.length := by omega
    simp only [laws_toIntS.l0]; rw [if_neg (by omega)]; simp
  | succ d ih =>
    intro k i h0 hd hk
    obtain ⟨k, rfl⟩ : ∃ m, k = m + 1 := ⟨k - 1, by omega⟩
    have hlt : i < l.length := by omega
    have e : (l.take i ++ List.replicate (l.length - i) 0).set (i : Int).toNat (rd l (i : Int)) = l.take (i + 1) ++ List.replicate (l.length - (i + 1)) 0 := by
      rw [rd_at l i hlt, Int.toNat_natCast, List.set_append, if_neg (by simp; omega)]
      rw [show l.length - i = (l.length - (i + 1)) + 1 by omega, List.replicate_succ]
      simp only [List.length_take, Nat.min_eq_left (Nat.le_of_lt hlt), Nat.sub_self, List.set_cons_zero]
      rw [List.take_succ_eq_append_getElem hlt, List.append_assoc]; rfl
    simp only [laws_toIntS.l0]
    rw [if_pos (by omega), if_pos (by omega), if_pos (by simp; omega), e, wrap_in (by omega) (by omega)]
    exact ih k (i + 1) (by omega) (by omega) (by omega)
theorem toIntS_eq (l : List Int) (hn : l.length ≤ 1048576) (k : Nat) (hk : l.length < k) : laws_toIntS.f k l = some l := by
  unfold laws_toIntS.f
  rw [if_pos (by omega), if_pos (by simp; omega)]
  have := toIntS_go l hn l.length k 0 (by omega) (by omega) hk
  simpa using this
theorem eqIntS_go (l : List Int) (hn : l.length ≤ 1048576) (d : Nat) : ∀ (k i : Nat), i ≤ l.length → l.length - i = d → d < k → laws_eqIntS.l0 k l l i = some true := by
  induction d with
  | zero =>
    intro k i h0 hd hk
    obtain ⟨k, rfl⟩ : ∃ m, k = m + 1 := ⟨k - 1, by omega⟩
    simp only [laws_eqIntS.l0]; rw [if_neg (by omega)]
  | succ d ih =>
    intro k i h0 hd hk
    obtain ⟨k, rfl⟩ : ∃ m, k = m + 1 := ⟨k - 1, by omega⟩
    simp only [laws_eqIntS.l0]
    rw [if_pos (by omega), if_pos (by omega), if_pos (by omega), wrap_in (by omega) (by omega)]
    exact ih k (i + 1) (by omega) (by omega) (by omega)
theorem eqIntS_eq (l : List Int) (hn : l.length ≤ 1048576) (k : Nat) (hk : l.length < k) : laws_eqIntS.f k l l = some true := by
  unfold laws_eqIntS.f
  rw [if_pos rfl]
  exact eqIntS_go l hn l.length k 0 (by omega) (by omega) hk
theorem l1All_go (l : List Int) (a b : Int) (hn : l.length ≤ 1048576) (d : Nat) : ∀ (k i : Nat), i ≤ l.length → l.length - i = d → d < k → spec_l1All.l0 k a b l l.length i = some ((l.drop i).all fun x => decide (a ≤ x ∧ x ≤ b)) := by
  induction d with
  | zero =>
    intro k i h0 hd hk
    obtain ⟨k, rfl⟩ : ∃ m, k = m + 1 := ⟨k - 1, by omega⟩
    simp only [spec_l1All.l0]; rw [if_neg (by omega), List.drop_eq_nil_of_le (by omega)]; rfl
  | succ d ih =>
    intro k i h0 hd hk
    obtain ⟨k, rfl⟩ : ∃ m, k = m + 1 := ⟨k - 1, by omega⟩
    have hlt : i < l.length := by omega
    simp only [spec_l1All.l0]
    rw [if_pos (by omega), if_pos (by omega), if_pos (by omega), in_eq', rd_at l i hlt, wrap_in (by omega) (by omega), List.drop_eq_getElem_cons hlt, List.all_cons]
    simp only [Option.bind_some]
    cases h : decide (a ≤ l[i] ∧ l[i] ≤ b) with
    | false => simp
    | true => simp only [if_true, Bool.true_and]; exact ih k (i + 1) (by omega) (by omega) (by omega)
theorem l1All_eq (l : List Int) (a b : Int) (hn : l.length ≤ 1048576) (k : Nat) (hk : l.length < k) : spec_l1All.f k l a b = some (l.all fun x => decide (a ≤ x ∧ x ≤ b)) := by
  unfold spec_l1All.f
  exact l1All_go l a b hn l.length k 0 (by omega) (by omega) hk
/-! the bits -/
theorem and_one (x : Int) (h0 : 0 ≤ x) (h1 : x < 9223372036854775808) : Go.bits .and .i64 x 1 = x % 2 := by
  have := bits_mask .i64 63 (by decide) (fun n h0 h1 => by rw [IntKind.wrap_i64]; omega) 1 (by decide) x h0 (by omega)
  simpa using this
theorem mod_in (a : Int) (h : 0 ≤ a) : IntKind.u64.wrap (Int.tmod a 16) = Int.tmod a 16 := by
  rw [Int.tmod_eq_emod_of_nonneg h]; simp [IntKind.wrap, IntKind.bits, IntKind.signed]; omega
theorem is_eq (L : Int) (l : List Int) (a : Int) (h : 0 ≤ a) : spec_l2Is.f L l a = impl_Bits_has.f L l a := by
  unfold spec_l2Is.f impl_Bits_has.f
  rw [mod_in a h]
theorem is_some (L : Int) (l : List Int) (a : Int) (h : 0 ≤ a) (hl : l.length ≤ 1048576) (h1 : a < 16 * l.length) : spec_l2Is.f L l a = some ((Go.bits .and .i64 (shr .i64 (rd l (a / 16)) (a % 16)) 1) == 1) := by
  unfold spec_l2Is.f
  rw [mod_in a h, Int.tdiv_eq_ediv_of_nonneg h, Int.tmod_eq_emod_of_nonneg h, wrap_in (by omega) (by omega), if_pos (by omega), if_pos (by omega), if_pos (by omega)]
/-- Bit a of the words. -/
def bitAt (l : List Int) (a : Nat) : Bool := (l.getD (a / 16) 0).toNat.testBit (a % 16)
theorem is_bit (L : Int) (l : List Int) (a : Nat) (hl : l.length ≤ 1048576) (h1 : a < 16 * l.length) (hw : ∀ x ∈ l, 0 ≤ x ∧ x ≤ 65535) : spec_l2Is.f L l a = some (bitAt l a) := by
  rw [is_some L l a (by omega) hl (by omega)]
  have e : ((a : Int) / 16) = ((a / 16 : Nat) : Int) := by omega
  have e2 : ((a : Int) % 16) = ((a % 16 : Nat) : Int) := by omega
  have hlt : a / 16 < l.length := by omega
  have hx := hw l[a / 16] (List.getElem_mem hlt)
  rw [e, e2, rd_at l _ hlt]
  unfold bitAt shr
  simp only [List.getD_eq_getElem?_getD, List.getElem?_eq_getElem hlt, Option.getD_some, Int.toNat_natCast]
  generalize l[a / 16] = x at hx
  obtain ⟨n, rfl⟩ := Int.eq_ofNat_of_zero_le hx.1
  rw [Nat.min_eq_left (by show a % 16 ≤ 64; omega), Int.toNat_natCast]
  have e3 : ((n : Int) / 2 ^ (a % 16)) = ((n / 2 ^ (a % 16) : Nat) : Int) := by simp
  have hle : n / 2 ^ (a % 16) ≤ n := Nat.div_le_self _ _
  rw [e3, Nat.testBit_eq_decide_div_mod_eq]
  generalize n / 2 ^ (a % 16) = q at hle
  rw [and_one _ (by omega) (by omega)]
  congr 1
  rw [Bool.eq_iff_iff]; simp; omega
theorem goodLoop (L : Nat) (l : List Int) (hl : l.length ≤ 1048576) (hw : ∀ x ∈ l, 0 ≤ x ∧ x ≤ 65535) (d : Nat) : ∀ (k a : Nat), a ≤ 16 * l.length → 16 * l.length - a = d → d < k →
    spec_GoodBits.l0 k a L l = some (decide (∀ j, a ≤ j → j < 16 * l.length → bitAt l j = false)) := by
  induction d with
  | zero =>
    intro k i h0 hd hk
    obtain ⟨k, rfl⟩ : ∃ m, k = m + 1 := ⟨k - 1, by omega⟩
    simp only [spec_GoodBits.l0]; rw [wrap_in (by omega) (by omega), if_neg (by omega)]
    congr 1; symm; rw [decide_eq_true_eq]; intro j h1 h2; omega
  | succ d ih =>
    intro k i h0 hd hk
    obtain ⟨k, rfl⟩ : ∃ m, k = m + 1 := ⟨k - 1, by omega⟩
    simp only [spec_GoodBits.l0]
    rw [wrap_in (x := (l.length : Int) * 16) (by omega) (by omega), if_pos (by omega), is_bit _ l i hl (by omega) hw, wrap_in (by omega) (by omega)]
    simp only [Option.bind_some]
    cases h : bitAt l i with
    | true =>
      simp only [if_true]; congr 1; symm; rw [decide_eq_false_iff_not]; intro hh
      have := hh i (Nat.le_refl _) (by omega); rw [h] at this; cases this
    | false =>
      simp only [Bool.false_eq_true, if_false]
      have := ih k (i + 1) (by omega) (by omega) (by omega)
      rw [show ((i : Int) + 1) = ((i + 1 : Nat) : Int) by omega, this]; congr 1
      rw [decide_eq_decide]
      exact ⟨fun hh j h1 h2 => by
        rcases Nat.lt_or_ge i j with h3 | h3
        · exact hh j h3 h2
        · obtain rfl : j = i := by omega
          exact h, fun hh j h1 h2 => hh j (by omega) h2⟩
theorem pow_le16 (m : Nat) (h : m ≤ 16) : 1 ≤ (2 : Int) ^ m ∧ (2 : Int) ^ m ≤ 65536 := by
  have : ∀ m : Fin 17, 1 ≤ (2 : Int) ^ m.val ∧ (2 : Int) ^ m.val ≤ 65536 := by decide
  exact this ⟨m, by omega⟩
theorem isBitsLoop (L : Nat) (l : List Int) (hl : l.length ≤ 6) (hL : 16 * l.length < L + 16) (hL6 : L ≤ 96) (hLl : L ≤ 16 * l.length) (d : Nat) : ∀ (k i : Nat), i ≤ l.length → l.length - i = d → d < k →
    impl_isBits.l0 k l l.length i L l = some (decide (∀ j, i ≤ j → j < l.length → 0 ≤ l.getD j 0 ∧ l.getD j 0 < 2 ^ (min 16 (L - 16 * j)))) := by
  induction d with
  | zero =>
    intro k i h0 hd hk
    obtain ⟨k, rfl⟩ : ∃ m, k = m + 1 := ⟨k - 1, by omega⟩
    simp only [impl_isBits.l0]; rw [if_neg (by omega)]
    congr 1; symm; rw [decide_eq_true_eq]; intro j h1 h2; omega
  | succ d ih =>
    intro k i h0 hd hk
    obtain ⟨k, rfl⟩ : ∃ m, k = m + 1 := ⟨k - 1, by omega⟩
    have hlt : i < l.length := by omega
    have hm : mn 16 ((L : Int) - (i : Int) * 16) = ((min 16 (L - 16 * i) : Nat) : Int) := by unfold mn; split <;> omega
    obtain ⟨hq1, hq2⟩ := pow_le16 (min 16 (L - 16 * i)) (by omega)
    simp only [impl_isBits.l0]
    rw [if_pos (by omega), if_pos (by omega), if_pos (by omega), wrap_in (x := (i : Int) * 16) (by omega) (by omega), wrap_in (x := (L : Int) - (i : Int) * 16) (by omega) (by omega), hm, if_pos (by omega), Int.toNat_natCast]
    have hi := ih k (i + 1) (by omega) (by omega) (by omega)
    generalize hq : (2 : Int) ^ (min 16 (L - 16 * i)) = q at *
    rw [wrap_in (x := q) (by omega) (by omega), wrap_in (x := q - 1) (by omega) (by omega), wrap_in (by omega) (by omega), in_eq, rd_nat]
    simp only [Option.bind_some]
    rw [show ((i : Int) + 1) = ((i + 1 : Nat) : Int) by omega, hi]
    by_cases h : 0 ≤ l.getD i 0 ∧ l.getD i 0 ≤ q - 1
    · rw [decide_eq_true h]; simp only [if_true]; congr 1
      rw [decide_eq_decide]
      exact ⟨fun hh j h1 h2 => by
        rcases Nat.lt_or_ge i j with h3 | h3
        · exact hh j h3 h2
        · obtain rfl : j = i := by omega
          rw [hq]; omega, fun hh j h1 h2 => hh j (by omega) h2⟩
    · rw [decide_eq_false h]; simp only [Bool.false_eq_true, if_false]; congr 1; symm
      rw [decide_eq_false_iff_not]; intro hh
      have := hh i (Nat.le_refl _) (by omega)
      rw [hq] at this; omega
theorem bits_same (L : Nat) (l : List Int) (hL : 16 * l.length < L + 16) (hLl : L ≤ 16 * l.length) :
    ((∀ x ∈ l, 0 ≤ x ∧ x ≤ 65535) ∧ ∀ j, L ≤ j → j < 16 * l.length → bitAt l j = false) ↔ ∀ j, 0 ≤ j → j < l.length → 0 ≤ l.getD j 0 ∧ l.getD j 0 < 2 ^ (min 16 (L - 16 * j)) := by
  constructor
  · rintro ⟨h1, h2⟩ j _ hj
    have hx := h1 l[j] (List.getElem_mem hj)
    have e : l.getD j 0 = l[j] := by simp [hj]
    refine ⟨by rw [e]; exact hx.1, ?_⟩
    have hlt : (l.getD j 0).toNat < 2 ^ (min 16 (L - 16 * j)) := by
      refine Nat.lt_pow_two_of_testBit _ fun i hi => ?_
      by_cases h16 : i < 16
      · have := h2 (16 * j + i) (by omega) (by omega)
        unfold bitAt at this
        rw [show (16 * j + i) / 16 = j by omega, show (16 * j + i) % 16 = i by omega] at this
        exact this
      · refine Nat.testBit_lt_two_pow (Nat.lt_of_lt_of_le (m := 2 ^ 16) ?_ (Nat.pow_le_pow_right (by omega) (by omega)))
        rw [e]; omega
    have hp2 : ((2 : Int) ^ (min 16 (L - 16 * j))) = ((2 ^ (min 16 (L - 16 * j)) : Nat) : Int) := by simp
    rw [hp2]; rw [e] at hlt ⊢; omega
  · intro h
    have hq : ∀ j, j < l.length → 0 ≤ l.getD j 0 ∧ (l.getD j 0).toNat < 2 ^ (min 16 (L - 16 * j)) := fun j hj => by
      have := h j (Nat.zero_le _) hj
      have hp2 : ((2 : Int) ^ (min 16 (L - 16 * j))) = ((2 ^ (min 16 (L - 16 * j)) : Nat) : Int) := by simp
      rw [hp2] at this; exact ⟨this.1, by omega⟩
    refine ⟨fun x hx => ?_, fun j h1 h2 => ?_⟩
    · obtain ⟨j, hj, rfl⟩ := List.getElem_of_mem hx
      have := hq j hj
      have e : l.getD j 0 = l[j] := by simp [hj]
      rw [e] at this
      have hp : (2 : Nat) ^ (min 16 (L - 16 * j)) ≤ 2 ^ 16 := Nat.pow_le_pow_right (by omega) (by omega)
      omega
    · have := hq (j / 16) (by omega)
      unfold bitAt
      exact Nat.testBit_lt_two_pow (Nat.lt_of_lt_of_le this.2 (Nat.pow_le_pow_right (by omega) (by omega)))
/-- What both say: the words are good. -/
noncomputable def good (L : Int) (l : List Int) : Bool := decide (0 ≤ L ∧ L ≤ 96) && decide ((l.length : Int) = (L + 15) / 16) && decide (∀ j, j < l.length → 0 ≤ l.getD j 0 ∧ l.getD j 0 < 2 ^ (min 16 (L.toNat - 16 * j)))
theorem good_eq (L : Int) (l : List Int) (hl : l.length ≤ 1048576) (k : Nat) (hk : 100 < k) (hk2 : l.length + 1 < k) : spec_GoodBits.f k L l = some (good L l) := by
  obtain ⟨k, rfl⟩ : ∃ m, k = m + 1 := ⟨k - 1, by omega⟩
  unfold spec_GoodBits.f good spec_l2Words.f
  simp only [in_eq', Option.bind_some]
  by_cases h : 0 ≤ L ∧ L ≤ 96
  · rw [decide_eq_true h]; simp only [if_true, Bool.true_and]
    have e : wrap64 (Int.tdiv (wrap64 (wrap64 (L + 16) - 1)) 16) = (L + 15) / 16 := by
      rw [wrap_in (x := L + 16) (by omega) (by omega), wrap_in (x := L + 16 - 1) (by omega) (by omega), Int.tdiv_eq_ediv_of_nonneg (by omega), wrap_in (by omega) (by omega)]; congr 1; omega
    rw [e]
    by_cases h1 : (l.length : Int) = (L + 15) / 16
    · rw [if_pos h1, decide_eq_true h1]; simp only [Bool.true_and]
      rw [l1All_eq l _ _ hl _ (by omega)]; simp only [Option.bind_some]
      obtain ⟨n, rfl⟩ := Int.eq_ofNat_of_zero_le h.1
      have hb := bits_same n l (by omega) (by omega)
      rw [Int.toNat_natCast]
      cases ha : l.all fun x => decide (0 ≤ x ∧ x ≤ 65535) with
      | false =>
        simp only [spec_GoodBits.j0, Bool.not_false, if_true]; congr 1; symm; rw [decide_eq_false_iff_not]; intro hh
        have := (hb.2 (fun j _ => hh j)).1
        have ht : (l.all fun x => decide (0 ≤ x ∧ x ≤ 65535)) = true := by rw [List.all_eq_true]; intro x hx; exact decide_eq_true (this x hx)
        rw [ha] at ht; cases ht
      | true =>
        have hw : ∀ x ∈ l, 0 ≤ x ∧ x ≤ 65535 := fun x hx => by simpa using List.all_eq_true.1 ha x hx
        simp only [spec_GoodBits.j0, Bool.not_true, Bool.false_eq_true, if_false]
        rw [goodLoop n l hl hw (16 * l.length - n) k n (by omega) rfl (by omega)]; congr 1
        rw [decide_eq_decide]
        exact ⟨fun hh j => hb.1 ⟨hw, hh⟩ j (Nat.zero_le _), fun hh => (hb.2 (fun j _ => hh j)).2⟩
    · rw [if_neg h1, decide_eq_false h1]; simp [spec_GoodBits.j0]
  · rw [decide_eq_false h]; simp [spec_GoodBits.j0]
theorem isBits_eq (L : Int) (l : List Int) (hl : l.length ≤ 1048576) (k : Nat) (hk : 100 < k) : impl_isBits.f k L l = some (good L l) := by
  obtain ⟨k, rfl⟩ : ∃ m, k = m + 1 := ⟨k - 1, by omega⟩
  unfold impl_isBits.f good
  simp only [in_eq, Option.bind_some]
  by_cases h : 0 ≤ L ∧ L ≤ 96
  · rw [decide_eq_true h]; simp only [if_true, Bool.true_and]
    have e : wrap64 (Int.tdiv (wrap64 (wrap64 (L + 16) - 1)) 16) = (L + 15) / 16 := by
      rw [wrap_in (x := L + 16) (by omega) (by omega), wrap_in (x := L + 16 - 1) (by omega) (by omega), Int.tdiv_eq_ediv_of_nonneg (by omega), wrap_in (by omega) (by omega)]; congr 1; omega
    rw [e]
    by_cases h1 : (l.length : Int) = (L + 15) / 16
    · have h2 : ((l.length : Int) != (L + 15) / 16) = false := by simp [h1]
      rw [h2, decide_eq_true h1]; simp only [Bool.true_and, impl_isBits.j0, Bool.false_eq_true, if_false]
      obtain ⟨n, rfl⟩ := Int.eq_ofNat_of_zero_le h.1
      have := isBitsLoop n l (by omega) (by omega) (by omega) (by omega) l.length k 0 (by omega) (by omega) (by omega)
      rw [Int.toNat_natCast]
      simpa using this
    · have h2 : ((l.length : Int) != (L + 15) / 16) = true := by simp [h1]
      rw [h2, decide_eq_false h1]; simp [impl_isBits.j0]
  · rw [decide_eq_false h]; simp [impl_isBits.j0]
theorem good_len {L : Int} {l : List Int} (h : good L l = true) : 0 ≤ L ∧ L ≤ 96 ∧ L ≤ 16 * l.length := by
  unfold good at h
  simp only [Bool.and_eq_true, decide_eq_true_eq] at h
  omega
theorem toBits_eq (L : Int) (l : List Int) (hl : l.length ≤ 1048576) (k : Nat) (hk : l.length < k) : laws_toBits.f k L l = some (L, l) := by
  unfold laws_toBits.f; rw [toIntS_eq l hl k hk]; rfl
theorem eqBits_eq (L : Int) (l : List Int) (hl : l.length ≤ 1048576) (k : Nat) (hk : l.length < k) : laws_eqBits.f k L l L l = some true := by
  unfold laws_eqBits.f; rw [if_pos rfl, eqIntS_eq l hl k hk]; rfl
theorem sz_eq (L : Int) (l : List Int) (hl : l.length ≤ 9223372036854775807) : laws_szBits.f L l 1048576 = some (if l.length ≤ 1048576 then 1048576 - (l.length : Int) else -1) := by
  unfold laws_szBits.f laws_szIntS.f
  rw [wrap_in (by omega) (by omega)]
  by_cases h : l.length ≤ 1048576
  · rw [if_neg (by omega), if_pos h]; simp only [Option.bind_some]; rw [if_neg (by omega)]
  · rw [if_pos (by omega), if_neg h]; rfl
theorem loop_eq (L : Int) (l : List Int) (hL : L ≤ 96) : ∀ (k : Nat) (a : Int), 0 ≤ a → spec_NextFree.l0 k a L l = impl_NextFree.l0 k a L l := by
  intro k
  induction k with
  | zero => intros; rfl
  | succ k ih =>
    intro a h0
    simp only [spec_NextFree.l0, impl_NextFree.l0]
    by_cases h : a < L
    · rw [if_pos h, if_pos h, is_eq L l a h0, wrap_in (x := a + 1) (by omega) (by omega), ih _ (by omega)]
    · rw [if_neg h, if_neg h]
theorem loop_some (L : Int) (l : List Int) (hl : l.length ≤ 1048576) (hb : L ≤ 16 * l.length) (d : Nat) : ∀ (k : Nat) (a : Int), 0 ≤ a → (L - a).toNat = d → d < k → ∃ r, spec_NextFree.l0 k a L l = some r := by
  induction d with
  | zero =>
    intro k a h0 hd hk
    obtain ⟨k, rfl⟩ : ∃ m, k = m + 1 := ⟨k - 1, by omega⟩
    simp only [spec_NextFree.l0]; rw [if_neg (by omega)]; exact ⟨_, rfl⟩
  | succ d ih =>
    intro k a h0 hd hk
    obtain ⟨k, rfl⟩ : ∃ m, k = m + 1 := ⟨k - 1, by omega⟩
    simp only [spec_NextFree.l0]
    rw [if_pos (by omega), is_some L l a h0 hl (by omega), wrap_in (x := a + 1) (by omega) (by omega)]
    simp only [Option.bind_some]
    split
    · exact ih k _ (by omega) (by omega) (by omega)
    · exact ⟨_, rfl⟩
theorem law_true (L : Int) (l : List Int) (a : Int) (hl : l.length ≤ 9223372036854775807) : ∃ k, laws_FnExactNextFree.f k L l a = some true := by
  by_cases h : l.length ≤ 1048576
  · refine ⟨1048900, ?_⟩
    unfold laws_FnExactNextFree.f spec_NextFree.f impl_NextFree.f spec_l2Run.f
    rw [sz_eq L l hl, if_pos h]
    simp only [Option.bind_some]
    rw [if_neg (by omega), toBits_eq L l h _ (by omega)]
    simp only [Option.bind_some]
    rw [good_eq L l h _ (by omega) (by omega), isBits_eq L l h _ (by omega)]
    simp only [Option.bind_some]
    have hj : laws_FnExactNextFree.j0 1048900 false L l L l = some true := by
      rw [show (1048900 : Nat) = 1048899 + 1 from rfl]
      simp only [laws_FnExactNextFree.j0, Bool.false_eq_true, if_false]
      rw [toBits_eq L l h _ (by omega)]; simp only [Option.bind_some]; rw [eqBits_eq L l h _ (by omega)]; rfl
    have hc : ∀ x1 x3 : Int, impl_NextFree.j0 1048900 x1 true x3 l = some (0, false) := fun _ _ => by
      rw [show (1048900 : Nat) = 1048899 + 1 from rfl]; simp only [impl_NextFree.j0, if_true]
    cases hg : good L l with
    | false =>
      simp only [Bool.false_eq_true, if_false, Option.bind_some, hc a L]
      simpa using hj
    | true =>
      have hg3 := good_len hg
      simp only [if_true, in_eq, Option.bind_some]
      by_cases c1 : a ≥ 0
      · by_cases c2 : a ≤ L
        · obtain ⟨r, hr⟩ := loop_some L l h (by omega) (L - a).toNat 1048900 a c1 rfl (by omega)
          obtain ⟨r', hr'⟩ := loop_some L l h (by omega) (L - a).toNat 1048899 a c1 rfl (by omega)
          have hmono : r' = r := by
            have := spec_NextFree.mono_l 1048899 a L l r' hr'
            rw [hr] at this; exact (Option.some.inj this).symm
          subst hmono
          have c3 : 0 ≤ a ∧ a ≤ L := ⟨c1, c2⟩
          simp only [if_pos c1, if_pos c2, decide_eq_true (Int.le_refl L), decide_eq_true c3, if_true, Option.bind_some, Bool.not_true]
          rw [show impl_NextFree.j0 1048900 a false L l = impl_NextFree.l0 1048899 a L l from by rw [show (1048900 : Nat) = 1048899 + 1 from rfl]; simp only [impl_NextFree.j0, Bool.false_eq_true, if_false]]
          rw [← loop_eq L l (by omega) _ a c1, hr, hr']
          simp only [Option.bind_some, if_true]
          simpa using hj
        · have c3 : ¬ (0 ≤ a ∧ a ≤ L) := by omega
          simp only [if_pos c1, if_neg c2, decide_eq_false c3, Bool.false_eq_true, if_false, Option.bind_some, Bool.not_false, hc a L]
          simpa using hj
      · have c3 : ¬ (0 ≤ a ∧ a ≤ L) := by omega
        simp only [if_neg c1, decide_eq_false c3, Bool.false_eq_true, if_false, Option.bind_some, Bool.not_false, hc a L]
        simpa using hj
  · refine ⟨1, ?_⟩
    unfold laws_FnExactNextFree.f
    rw [sz_eq L l hl, if_neg h]; rfl
theorem law_calls (L : Int) (A : Option Addr) (c : Nat) (l : List Int) (a : Int) (w : World) (hr : Kd.C (Kd.int .i64) w A l.length l) (hc : l.length ≤ c) (hl : l.length ≤ 9223372036854775807) :
    Calls Try.prog 8 #[.agg #[.int .i64 L, .slice A l.length c], .int .i64 a] w fun e w' => e = .returned (.bool true) ∧ Below w.heap.size w w' := by
  obtain ⟨k, hk⟩ := law_true L l a hl
  exact laws_FnExactNextFree.calls k L A c l a true w hr hc hk
theorem own : ownKnob Try.prog.godebug = none := by kernel_rfl
theorem laidOut : laidOutB Try.prog = true := by kernel_rfl
theorem cells51 : Try.prog.cellsOf 51 = 2 := by kernel_rfl
set_option maxRecDepth 100000 in
theorem lifted (os : Os) (started : os.Started) (H : Type) (enc : TypeId × Value → H) :
    ReturnsInHanded {} Try.checked os 8 .any (Rows.fnExactNextFreeSpec.pre6 enc Try.prog Try.f8 Rows.fnExactNextFreeRow.domain false) (Rows.fnExactNextFreeSpec.post enc Try.prog Try.f8 false true false false) := by
  refine returnsInHanded_of_change_sized (C := Try.checked) own started (by kernel_rfl) Try.func8
    (ChangeSpec.witness6 (enc := enc) (C := Try.checked) false ⟨#[], #[.agg #[.int .i64 0, .slice none 0 0], .int .i64 0], []⟩ 8 (by kernel_rfl) (by kernel_rfl) (by kernel_rfl) (by kernel_rfl)) ?_
  intro W base args ds gs before hval0 hW hcnd hsz0 _
  have hsz : (DataW.weightsEach Try.prog (Try.f8.params.toList ++ Rows.fnExactNextFreeSpec.plain.varTypes Try.prog) (ds ++ gs)).all (· ≤ reachBytes) = true := hsz0
  have hval : ∀ (j : Nat) t v, Try.f8.params[j]? = some t → args[j]? = some v → Value.okWide Try.prog W .any base t v := hval0
  have hW' := hW
  obtain ⟨p, q, hA0, hV, rfl, hfz, hnd⟩ := hW
  have hA : DataW.TrodAll enc Try.prog W 0 (fun _ => true) true Try.f8.params.toList args.toList ds p := hA0
  rw [Try.params8] at hA hval hsz
  obtain ⟨v0, vs0, d0, ds0, p0, q0, hargs, rfl, rfl, h0, r0⟩ := trodAll_cons hA
  obtain ⟨v1, vs1, d1, ds1, p1, q1, rfl, rfl, rfl, h1, r1⟩ := trodAll_cons r0
  obtain ⟨rfl, rfl, rfl⟩ := trodAll_nil r1
  obtain rfl : args = #[v0, v1] := by cases args; simp_all
  obtain ⟨rfl, rfl⟩ := trodVars_none hV
  have hin : ∀ x ∈ p0 ++ p1, x.block < W.heap.size := fun x hx => hW'.lt x (by simpa using hx)
  have k0 := h0
  have lt0 : ∀ x ∈ p0, x.block < W.heap.size := fun x hx => hin x (by simp [hx])
  have k1 := h1
  have lt1 : ∀ x ∈ p1, x.block < W.heap.size := fun x hx => hin x (by simp [hx])
  obtain ⟨c0_0, c0_1, y0_0, y0_1, m0, rfl, e0, ep0, hy0_0, hy0_1⟩ := open_agg2 Try.underlying51 (by kernel_rfl) cells51 (hval 0 51 v0 rfl rfl) h0
  obtain ⟨x0_0, e0_0, rfl, w0_0⟩ := DataW.trod_int Try.underlying3 hy0_0
  obtain ⟨A0_1, x0_1, n0_1, rfl, le0_1, mx0_1, rd0_1, wf0_1⟩ := open_ints_C Try.underlying22 Try.underlying3 (by kernel_rfl) hy0_1
  simp at e0_0
  subst e0_0
  obtain ⟨x1, rfl, e1, ep1, w1⟩ := open_int Try.underlying3 (hval 1 3 v1 rfl rfl) h1
  clear hA0 hval0 hsz0
  refine (law_calls x0_0 A0_1 n0_1 x0_1 x1 W rd0_1 le0_1 mx0_1).mono fun e W' ⟨he, bel⟩ => ?_
  subst he
  exact ⟨_, rfl, _, _, _, [], _, [], hW', trodAll_mk1 (shut_bool Try.underlying4 _), (trodAll_cons_mk (Below.trod laidOut (by kernel_rfl) (of_decide_eq_true (by kernel_rfl)) k0 bel lt0) (trodAll_cons_mk (Below.trod laidOut (by kernel_rfl) (of_decide_eq_true (by kernel_rfl)) k1 bel lt1) trodAll_mk0)), rfl, bel.frame _, fun h => by cases h⟩
theorem over : Rows.fnExactNextFreeRow.holds Try.pinned (OpenSpec.ofChange Rows.fnExactNextFreeSpec) :=
  OpenClaim.holds_of_wide 8 Try.f8 rfl rfl rfl rfl rfl rfl rfl ⟨rfl, rfl, rfl, rfl, rfl⟩ rfl rfl rfl rfl rfl (by kernel_rfl) Try.func8 (by kernel_rfl)
    (of_decide_eq_true (by kernel_rfl)) (by unfold Func.isWrapper; first | (rw [if_pos (by decide +kernel)]; kernel_rfl) | (rw [if_neg (by decide +kernel)]; exact ⟨rfl, rfl⟩))
    (fun os started H enc _ => lifted os started H enc)
theorem proved : Rows.FnExactNextFreeSaid := over
end Go.Proofs.Ythjddhannpdfeaa.fnExactNextFree
namespace Go.Proofs.Ythjddhannpdfeaa
theorem fnExactNextFree_holds : Rows.FnExactNextFreeSaid := fnExactNextFree.proved
end Go.Proofs.Ythjddhannpdfeaa
