import Derived.Test.YtdkembicgbffnaaQBx4
import Derived.Deep.Slices
import Derived.Lib.SmallJoins
import Derived.ProofKit
namespace Go.Proofs.Ytdkembicgbffnaa.QB
open Go.RowKit Go.Joins Go.ChangeShapes Go.WideShapes Go.Proofs.YtdkembicgbffnaaW.PrintWords
set_option linter.unusedVariables false
theorem wrap_in {x : Int} (h0 : -9223372036854775808 ≤ x) (h1 : x ≤ 9223372036854775807) : wrap64 x = x := by unfold wrap64; omega
theorem rd_nat (l : List Int) (i : Nat) : rd l (i : Int) = l.getD i 0 := by unfold rd; simp
theorem rd_at (l : List Int) (i : Nat) (h : i < l.length) : rd l (i : Int) = l[i] := by rw [rd_nat]; simp [h]
/-- A copying loop: what has been copied, then what is still to be overwritten. -/
theorem copy_step {α β : Type} (f : α → β) (z : β) (l : List α) (i : Nat) (h : i < l.length) :
    ((l.take i).map f ++ List.replicate (l.length - i) z).set i (f l[i]) = (l.take (i + 1)).map f ++ List.replicate (l.length - (i + 1)) z := by
  rw [List.set_append, if_neg (by simp; omega)]
  rw [show l.length - i = (l.length - (i + 1)) + 1 by omega, List.replicate_succ]
  simp only [List.length_map, List.length_take, Nat.min_eq_left (Nat.le_of_lt h), Nat.sub_self, List.set_cons_zero]
  rw [List.take_succ_eq_append_getElem h, List.map_append, List.append_assoc]; rfl
theorem copy_step1 (z : Int) (l : List Int) (i : Nat) (h : i < l.length) :
    (l.take i ++ List.replicate (l.length - i) z).set i l[i] = l.take (i + 1) ++ List.replicate (l.length - (i + 1)) z := by
  have := copy_step (fun x : Int => x) z l i h
  simpa using this
theorem toIntS_go (l : List Int) (hn : l.length ≤ 1048576) (d : Nat) : ∀ (k i : Nat), i ≤ l.length → l.length - i = d → d < k → laws_toIntS.l0 k l (l.take i ++ List.replicate (l.length - i) 0) i = some l := by
  induction d with
  | zero =>
    intro k i h0 hd hk
    obtain ⟨k, rfl⟩ : ∃ m, k = m + 1 := ⟨k - 1, by omega⟩
    obtain rfl : i = l.length := by omega
    simp only [laws_toIntS.l0]; rw [if_neg (by omega)]; simp
  | succ d ih =>
    intro k i h0 hd hk
    obtain ⟨k, rfl⟩ : ∃ m, k = m + 1 := ⟨k - 1, by omega⟩
    have hlt : i < l.length := by omega
    simp only [laws_toIntS.l0]
    rw [if_pos (by omega), if_pos (by omega), if_pos (by simp; omega), rd_at l i hlt, Int.toNat_natCast, copy_step1 0 l i hlt, wrap_in (by omega) (by omega)]
    exact ih k (i + 1) (by omega) (by omega) (by omega)
theorem toIntS_eq (l : List Int) (hn : l.length ≤ 1048576) (k : Nat) (hk : l.length < k) : laws_toIntS.f k l = some l := by
  unfold laws_toIntS.f
  rw [if_pos (by omega), if_pos (by simp; omega)]
  have := toIntS_go l hn l.length k 0 (by omega) (by omega) hk
  simpa using this
theorem eqIntS_go (l : List Int) (hn : l.length ≤ 1048576) (d : Nat) : ∀ (k i : Nat), i ≤ l.length → l.length - i = d → d < k → laws_eqIntS.l0 k l l i = some true := by
  induction d with
  | zero =>
    intro k i h0 hd hk
    obtain ⟨k, rfl⟩ : ∃ m, k = m + 1 := ⟨k - 1, by omega⟩
    simp only [laws_eqIntS.l0]; rw [if_neg (by omega)]
  | succ d ih =>
    intro k i h0 hd hk
    obtain ⟨k, rfl⟩ : ∃ m, k = m + 1 := ⟨k - 1, by omega⟩
    simp only [laws_eqIntS.l0]
    rw [if_pos (by omega), if_pos (by omega), if_pos (by omega), wrap_in (by omega) (by omega)]
    exact ih k (i + 1) (by omega) (by omega) (by omega)
theorem eqIntS_eq (l : List Int) (hn : l.length ≤ 1048576) (k : Nat) (hk : l.length < k) : laws_eqIntS.f k l l = some true := by
  unfold laws_eqIntS.f
  rw [if_pos rfl]
  exact eqIntS_go l hn l.length k 0 (by omega) (by omega) hk
/-- The budget of the sizes, behind a list of ints. -/
theorem szIntS_eq (l : List Int) (a : Int) (h0 : 0 ≤ a) (h1 : a ≤ 1048576) (hl : l.length ≤ 9223372036854775807) : laws_szIntS.f l a = some (if (l.length : Int) ≤ a then a - l.length else -1) := by
  unfold laws_szIntS.f
  rw [wrap_in (by omega) (by omega)]
  by_cases h : (l.length : Int) ≤ a
  · rw [if_neg (by omega), if_pos h]
  · rw [if_pos (by omega), if_neg h]
def conv (x : S53) : S49 := ⟨x.f0, x.f1, x.f2, x.f3⟩
theorem rd53 (l : List S53) (i : Nat) (h : i < l.length) : rd_T53 l (i : Int) = l[i] := by unfold rd_T53; simp [h]
theorem rd49 (l : List S49) (i : Nat) (h : i < l.length) : rd_T49 l (i : Int) = l[i] := by unfold rd_T49; simp [h]
def big (l : List S53) : Prop := l.length ≤ 1048576 ∧ ∀ x ∈ l, x.f3.length ≤ 1048576
theorem sz_go (l : List S53) (hn : l.length ≤ 1048576) (hs : ∀ x ∈ l, x.f3.length ≤ 9223372036854775807) (d : Nat) : ∀ (k i : Nat) (a : Int), i ≤ l.length → l.length - i = d → d < k → 0 ≤ a → a ≤ 1048576 →
    ∃ r, laws_szBlockS.l0 k l a i = some r ∧ (0 ≤ r → ∀ j (hj : j < l.length), i ≤ j → l[j].f3.length ≤ 1048576) := by
  induction d with
  | zero =>
    intro k i a h0 hd hk ha ha1
    obtain ⟨k, rfl⟩ : ∃ m, k = m + 1 := ⟨k - 1, by omega⟩
    refine ⟨a, ?_, fun _ j hj hij => by omega⟩
    simp only [laws_szBlockS.l0]; rw [if_neg (by omega)]
  | succ d ih =>
    intro k i a h0 hd hk ha ha1
    obtain ⟨k, rfl⟩ : ∃ m, k = m + 1 := ⟨k - 1, by omega⟩
    have hlt : i < l.length := by omega
    simp only [laws_szBlockS.l0]
    rw [if_pos (by omega), if_pos (by omega), rd53 l i hlt]
    unfold laws_szBlock.f
    rw [szIntS_eq l[i].f3 a ha ha1 (hs _ (List.getElem_mem hlt))]
    simp only [Option.bind_some]
    by_cases h : (l[i].f3.length : Int) ≤ a
    · rw [if_pos h, if_neg (by omega)]
      simp only [Option.bind_some]
      rw [if_neg (by omega), wrap_in (by omega) (by omega)]
      obtain ⟨r, hr, hb⟩ := ih k (i + 1) (a - l[i].f3.length) (by omega) (by omega) (by omega) (by omega) (by omega)
      refine ⟨r, hr, fun hr0 j hj hij => ?_⟩
      by_cases e : j = i
      · subst e; omega
      · exact hb hr0 j hj (by omega)
    · rw [if_neg h, if_pos (by omega)]
      exact ⟨-1, rfl, fun h => by omega⟩
theorem sz_eq (l : List S53) (hl : l.length ≤ 9223372036854775807) (hs : ∀ x ∈ l, x.f3.length ≤ 9223372036854775807) (k : Nat) (hk : 1048577 < k) : ∃ r, laws_szBlockS.f k l 1048576 = some r ∧ (0 ≤ r → big l) := by
  unfold laws_szBlockS.f
  rw [wrap_in (by omega) (by omega)]
  by_cases h : l.length ≤ 1048576
  · rw [if_neg (by omega)]
    obtain ⟨r, hr, hb⟩ := sz_go l h hs l.length k 0 (1048576 - l.length) (by omega) (by omega) (by omega) (by omega) (by omega)
    refine ⟨r, hr, fun h0 => ⟨h, fun x hx => ?_⟩⟩
    obtain ⟨j, hj, rfl⟩ := List.getElem_of_mem hx
    exact hb h0 j hj (Nat.zero_le _)
  · rw [if_pos (by omega)]; exact ⟨-1, rfl, fun h => by omega⟩
theorem to_go (l : List S53) (hb : big l) (d : Nat) : ∀ (k i : Nat), i ≤ l.length → l.length - i = d → d + 1048577 < k → laws_toBlockS.l0 k l ((l.take i).map conv ++ List.replicate (l.length - i) z49) i = some (l.map conv) := by
  induction d with
  | zero =>
    intro k i h0 hd hk
    obtain ⟨k, rfl⟩ : ∃ m, k = m + 1 := ⟨k - 1, by omega⟩
    obtain rfl : i = l.length := by omega
    simp only [laws_toBlockS.l0]; rw [if_neg (by omega)]; simp
  | succ d ih =>
    intro k i h0 hd hk
    obtain ⟨k, rfl⟩ : ∃ m, k = m + 1 := ⟨k - 1, by omega⟩
    have hlt : i < l.length := by omega
    have := hb.1
    have h3 := hb.2 _ (List.getElem_mem hlt)
    simp only [laws_toBlockS.l0]
    rw [if_pos (by omega), if_pos (by omega), rd53 l i hlt]
    unfold laws_toBlock.f
    rw [toIntS_eq _ h3 _ (by omega)]
    simp only [Option.bind_some]
    rw [if_pos (by simp; omega), Int.toNat_natCast, wrap_in (by omega) (by omega)]
    rw [show (⟨l[i].f0, l[i].f1, l[i].f2, l[i].f3⟩ : S49) = conv l[i] from rfl, copy_step conv z49 l i hlt]
    exact ih k (i + 1) (by omega) (by omega) (by omega)
theorem to_eq (l : List S53) (hb : big l) (k : Nat) (hk : 2097160 < k) : laws_toBlockS.f k l = some (l.map conv) := by
  have := hb.1
  unfold laws_toBlockS.f
  rw [if_pos (by omega), if_pos (by simp; omega)]
  have := to_go l hb l.length k 0 (by omega) (by omega) (by omega)
  simpa using this
theorem eq_go (l : List S49) (hn : l.length ≤ 1048576) (hs : ∀ x ∈ l, x.f3.length ≤ 1048576) (d : Nat) : ∀ (k i : Nat), i ≤ l.length → l.length - i = d → d + 1048577 < k → laws_eqBlockS.l0 k l l i = some true := by
  induction d with
  | zero =>
    intro k i h0 hd hk
    obtain ⟨k, rfl⟩ : ∃ m, k = m + 1 := ⟨k - 1, by omega⟩
    simp only [laws_eqBlockS.l0]; rw [if_neg (by omega)]
  | succ d ih =>
    intro k i h0 hd hk
    obtain ⟨k, rfl⟩ : ∃ m, k = m + 1 := ⟨k - 1, by omega⟩
    have hlt : i < l.length := by omega
    simp only [laws_eqBlockS.l0]
    rw [if_pos (by omega), if_pos (by omega), if_pos (by omega)]
    unfold laws_eqBlock.f
    rw [rd49 l i hlt, if_pos rfl, if_pos rfl, if_neg (by simp), eqIntS_eq _ (hs _ (List.getElem_mem hlt)) _ (by have := hs _ (List.getElem_mem hlt); omega)]
    simp only [Option.bind_some, if_true]
    rw [wrap_in (by omega) (by omega)]
    exact ih k (i + 1) (by omega) (by omega) (by omega)
theorem eq_eq (l : List S49) (hn : l.length ≤ 1048576) (hs : ∀ x ∈ l, x.f3.length ≤ 1048576) (k : Nat) (hk : 2097160 < k) : laws_eqBlockS.f k l l = some true := by
  unfold laws_eqBlockS.f
  rw [if_pos rfl]
  exact eq_go l hn hs l.length k 0 (by omega) (by omega) (by omega)
theorem eq_conv (l : List S53) (hb : big l) (k : Nat) (hk : 2097160 < k) : laws_eqBlockS.f k (l.map conv) (l.map conv) = some true :=
  eq_eq _ (by simpa using hb.1) (fun x hx => by obtain ⟨y, hy, rfl⟩ := List.mem_map.1 hx; exact hb.2 y hy) k hk
theorem in_eq (a b c : Int) : impl_within.f a b c = some (decide (b ≤ a ∧ a ≤ c)) := by
  unfold impl_within.f; by_cases h : a ≥ b
  · rw [if_pos h]; simp [h]
  · rw [if_neg h]; simp; omega
theorem in_eq' (a b c : Int) : spec_l1In.f a b c = some (decide (b ≤ a ∧ a ≤ c)) := in_eq a b c
/-- The reference's search is the program's. -/
theorem l13At_go (l : List S49) (a : Int) (hn : l.length ≤ 1048576) (d : Nat) : ∀ (k i : Nat), i ≤ l.length → l.length - i = d → d < k → (∀ j (hj : j < l.length), j < i → (l[j].f0 == a) = false) → spec_l13At.l0 k a l l.length i = some (BK.blockIdx l a) := by
  induction d with
  | zero =>
    intro k i h0 hd hk hb
    obtain ⟨k, rfl⟩ : ∃ m, k = m + 1 := ⟨k - 1, by omega⟩
    simp only [spec_l13At.l0]; rw [if_neg (by omega)]
    unfold BK.blockIdx
    rw [G.idxOf_miss _ _ (fun j hj => hb j hj (by omega))]
  | succ d ih =>
    intro k i h0 hd hk hb
    obtain ⟨k, rfl⟩ : ∃ m, k = m + 1 := ⟨k - 1, by omega⟩
    have hlt : i < l.length := by omega
    simp only [spec_l13At.l0]
    rw [if_pos (by omega), if_pos (by omega), if_pos (by omega), rd49 l i hlt]
    by_cases h : l[i].f0 = a
    · rw [if_pos h]
      unfold BK.blockIdx
      rw [G.idxOf_hit _ l i hlt (by simp [h]) (fun j hj => hb j (by omega) hj)]
    · rw [if_neg h, wrap_in (by omega) (by omega)]
      refine ih k (i + 1) (by omega) (by omega) (by omega) fun j hj hji => ?_
      by_cases e : j = i
      · subst e; simpa using h
      · exact hb j hj (by omega)
theorem l13At_eq (l : List S49) (a : Int) (hn : l.length ≤ 1048576) (k : Nat) (hk : 1048577 < k) : spec_l13At.f k l a = some (BK.blockIdx l a) := by
  unfold spec_l13At.f
  exact l13At_go l a hn l.length k 0 (by omega) (by omega) (by omega) (fun j _ hj => absurd hj (Nat.not_lt_zero _))
theorem good_len {l : List S49} (h : BK.goodB l = true) : l.length ≤ 12 := by
  unfold BK.goodB at h
  simp only [Bool.and_eq_true, decide_eq_true_eq] at h
  exact h.1.1
theorem places_eq : ∀ (k : Nat) (o : List Int) (e : Int) (l : List S49) (n i : Int), spec_l13Places.l0 k o e l n i = impl_newPlaces.l0 k o e l n i := by
  intro k
  induction k with
  | zero => intros; rfl
  | succ k ih => intro o e l n i; simp only [spec_l13Places.l0, impl_newPlaces.l0, ih]
theorem places_some (l : List S49) (hn : l.length ≤ 12) (d : Nat) : ∀ (k i : Nat) (o : List Int) (e : Int), i ≤ l.length → l.length - i = d → d < k → o.length ≤ i → ∃ r, spec_l13Places.l0 k o e l l.length i = some r := by
  induction d with
  | zero =>
    intro k i o e h0 hd hk ho
    obtain ⟨k, rfl⟩ : ∃ m, k = m + 1 := ⟨k - 1, by omega⟩
    simp only [spec_l13Places.l0]; rw [if_neg (by omega)]; exact ⟨_, rfl⟩
  | succ d ih =>
    intro k i o e h0 hd hk ho
    obtain ⟨k, rfl⟩ : ∃ m, k = m + 1 := ⟨k - 1, by omega⟩
    have hlt : i < l.length := by omega
    simp only [spec_l13Places.l0]
    rw [if_pos (by omega), if_pos (by omega), if_pos (by omega), wrap_in (x := (i : Int) + 1) (by omega) (by omega)]
    split
    · rw [if_pos (by omega)]
      exact ih k (i + 1) _ _ (by omega) (by omega) (by omega) (by simp; omega)
    · rw [if_pos (by omega)]
      exact ih k (i + 1) _ _ (by omega) (by omega) (by omega) (by simp; omega)
theorem GoodBlocks_true (l : List S53) (hl : l.length ≤ 9223372036854775807) (hs : ∀ x ∈ l, x.f3.length ≤ 9223372036854775807) : laws_FnExactGoodBlocks.f 2097170 l = some true := by
  obtain ⟨r, hr, hb⟩ := sz_eq l hl hs 2097170 (by omega)
  unfold laws_FnExactGoodBlocks.f
  rw [hr]; simp only [Option.bind_some]
  by_cases h : r < 0
  · rw [if_pos h]
  · rw [if_neg h]
    have hb := hb (by omega)
    simp only [to_eq l hb 2097170 (by omega), eq_conv l hb 2097170 (by omega), Option.bind_some, spec_GoodBlocks.f, impl_GoodBlocks.f, impl_areBlocks.f]
    simp
theorem BlockAt_true (l : List S53) (a : Int) (hl : l.length ≤ 9223372036854775807) (hs : ∀ x ∈ l, x.f3.length ≤ 9223372036854775807) : laws_FnExactBlockAt.f 2097171 l a = some true := by
  obtain ⟨r, hr, hb⟩ := sz_eq l hl hs 2097171 (by omega)
  unfold laws_FnExactBlockAt.f
  rw [hr]; simp only [Option.bind_some]
  by_cases h : r < 0
  · rw [if_pos h]
  · rw [if_neg h]
    have hb := hb (by omega)
    have hln : (l.map conv).length ≤ 1048576 := by simpa using hb.1
    have hj : laws_FnExactBlockAt.j0 2097171 l (l.map conv) false = some true := by
      rw [show (2097171 : Nat) = 2097170 + 1 from rfl]
      simp only [laws_FnExactBlockAt.j0, to_eq l hb 2097170 (by omega), eq_conv l hb 2097170 (by omega), Option.bind_some]
      simp
    simp only [to_eq l hb 2097171 (by omega), Option.bind_some, spec_BlockAt.f, impl_BlockAt.f, spec_GoodBlocks.f, impl_areBlocks.f, impl_blockIndex.f, l13At_eq _ a hln 2097171 (by omega)]
    cases BK.goodB (l.map conv) with
    | false => simpa using hj
    | true =>
      simp only [if_true]
      by_cases h0 : BK.blockIdx (l.map conv) a < 0
      · simp only [if_pos h0, Option.bind_some]; simpa using hj
      · simp only [if_neg h0, Option.bind_some]; simpa using hj
theorem FollowName_true (l : List S53) (a b : Int) (hl : l.length ≤ 9223372036854775807) (hs : ∀ x ∈ l, x.f3.length ≤ 9223372036854775807) : laws_FnExactFollowName.f 2097171 l a b = some true := by
  obtain ⟨r, hr, hb⟩ := sz_eq l hl hs 2097171 (by omega)
  unfold laws_FnExactFollowName.f
  rw [hr]; simp only [Option.bind_some]
  by_cases h : r < 0
  · rw [if_pos h]
  · rw [if_neg h]
    have hb := hb (by omega)
    have hln : (l.map conv).length ≤ 1048576 := by simpa using hb.1
    have hj : laws_FnExactFollowName.j0 2097171 l (l.map conv) false = some true := by
      rw [show (2097171 : Nat) = 2097170 + 1 from rfl]
      simp only [laws_FnExactFollowName.j0, to_eq l hb 2097170 (by omega), eq_conv l hb 2097170 (by omega), Option.bind_some]
      simp
    simp only [to_eq l hb 2097171 (by omega), Option.bind_some, spec_FollowName.f, impl_FollowName.f, spec_GoodBlocks.f, impl_areBlocks.f, impl_blockIndex.f, in_eq, in_eq']
    have hf : ∀ x ∈ l.map conv, x.f3.length ≤ 1048576 := fun x hx => by obtain ⟨y, hy, rfl⟩ := List.mem_map.1 hx; exact hb.2 y hy
    generalize l.map conv = m at *
    cases BK.goodB m with
    | false => simpa using hj
    | true =>
      simp only [if_true]
      rw [wrap_in (x := (m.length : Int) - 1) (by omega) (by omega)]
      by_cases c1 : 0 ≤ a ∧ a ≤ (m.length : Int) - 1
      · rw [decide_eq_true c1]
        simp only [if_true]
        simp only [if_pos c1.1, if_pos (show a < (m.length : Int) by omega)]
        obtain ⟨n, rfl⟩ := Int.eq_ofNat_of_zero_le c1.1
        rw [rd49 m n (by omega)]
        have h3 := hf m[n] (List.getElem_mem _)
        generalize m[n].f3 = f at h3
        rw [wrap_in (x := (f.length : Int) - 1) (by omega) (by omega)]
        by_cases c2 : 0 ≤ b ∧ b ≤ (f.length : Int) - 1
        · rw [decide_eq_true c2]
          simp only [if_true]
          simp only [if_pos c2.1, if_pos (show b < (f.length : Int) by omega)]
          by_cases c3 : rd f b < 0
          · simp only [if_pos c3, Option.bind_some]; simpa using hj
          · simp only [if_neg c3, l13At_eq m _ hln 2097171 (by omega), Option.bind_some]; simpa using hj
        · rw [decide_eq_false c2]; simpa using hj
      · rw [decide_eq_false c1]; simpa using hj
theorem TopOf_true (l : List S53) (hl : l.length ≤ 9223372036854775807) (hs : ∀ x ∈ l, x.f3.length ≤ 9223372036854775807) : laws_FnExactTopOf.f 2097171 l = some true := by
  obtain ⟨r, hr, hb⟩ := sz_eq l hl hs 2097171 (by omega)
  unfold laws_FnExactTopOf.f
  rw [hr]; simp only [Option.bind_some]
  by_cases h : r < 0
  · rw [if_pos h]
  · rw [if_neg h]
    have hb := hb (by omega)
    have hln : (l.map conv).length ≤ 1048576 := by simpa using hb.1
    have hj : laws_FnExactTopOf.j0 2097171 l (l.map conv) false = some true := by
      rw [show (2097171 : Nat) = 2097170 + 1 from rfl]
      simp only [laws_FnExactTopOf.j0, to_eq l hb 2097170 (by omega), eq_conv l hb 2097170 (by omega), Option.bind_some]
      simp
    simp only [to_eq l hb 2097171 (by omega), Option.bind_some, spec_TopOf.f, impl_TopOf.f, impl_topOf.f, spec_GoodBlocks.f, impl_areBlocks.f]
    generalize l.map conv = m at *
    cases BK.goodB m with
    | false => simpa using hj
    | true =>
      simp only [if_true]
      by_cases c1 : (m.length : Int) = 0
      · rw [if_pos c1, if_pos c1]; simpa using hj
      · rw [if_neg c1, if_neg c1, wrap_in (x := (m.length : Int) - 1) (by omega) (by omega), if_pos (by omega), if_pos (by omega), if_pos (by omega), if_pos (by omega)]; simpa using hj
theorem GapsIn_true (l : List S53) (hl : l.length ≤ 9223372036854775807) (hs : ∀ x ∈ l, x.f3.length ≤ 9223372036854775807) : laws_FnExactGapsIn.f 2097171 l = some true := by
  obtain ⟨r, hr, hb⟩ := sz_eq l hl hs 2097171 (by omega)
  unfold laws_FnExactGapsIn.f
  rw [hr]; simp only [Option.bind_some]
  by_cases h : r < 0
  · rw [if_pos h]
  · rw [if_neg h]
    have hb := hb (by omega)
    have hln : (l.map conv).length ≤ 1048576 := by simpa using hb.1
    have hj : laws_FnExactGapsIn.j0 2097171 l (l.map conv) false = some true := by
      rw [show (2097171 : Nat) = 2097170 + 1 from rfl]
      simp only [laws_FnExactGapsIn.j0, to_eq l hb 2097170 (by omega), eq_conv l hb 2097170 (by omega), Option.bind_some]
      simp
    simp only [to_eq l hb 2097171 (by omega), Option.bind_some, spec_GapsIn.f, impl_GapsIn.f, spec_TopOf.f, impl_topOf.f, spec_GoodBlocks.f, impl_areBlocks.f, spec_l13Places.f, impl_newPlaces.f, ← places_eq]
    generalize l.map conv = m at *
    cases hg : BK.goodB m with
    | false => simpa using hj
    | true =>
      simp only [if_true]
      obtain ⟨⟨po, pe⟩, hp⟩ := places_some m (good_len hg) m.length 2097171 0 [] 0 (by omega) (by omega) (by have := good_len hg; omega) (by simp)
      simp only [Int.natCast_zero] at hp
      by_cases c1 : (m.length : Int) = 0
      · rw [if_pos c1, if_pos c1]; simp only [Option.bind_some, if_true, hp]; simpa using hj
      · rw [if_neg c1, if_neg c1, wrap_in (x := (m.length : Int) - 1) (by omega) (by omega), if_pos (by omega), if_pos (by omega), if_pos (by omega), if_pos (by omega)]; simp only [Option.bind_some, if_true, hp]; simpa using hj

end Go.Proofs.Ytdkembicgbffnaa.QB
