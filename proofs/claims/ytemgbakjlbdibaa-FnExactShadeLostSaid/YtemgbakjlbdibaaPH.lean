import Derived.Test.YtemgbakjlbdibaaQBx
import Derived.Deep.Slices
import Derived.Lib.SmallJoins
import Derived.ProofKit
namespace Go.Proofs.Ytemgbakjlbdibaa.QB
open Go.RowKit Go.Joins Go.ChangeShapes Go.WideShapes Go.Proofs.YtemgbakjlbdibaaW.PrintWords
set_option linter.unusedVariables false
open Go.Proofs.YtemgbakjlbdibaaW.PrintWords in
/-- A slice of ints, opened as the printed contracts want it. -/
theorem open_ints_C {H : Type} {enc : TypeId × Value → H} {P : Program} {W : World} {base : Nat} {spare : Nat → Bool} {held : Bool} {t e : TypeId} {fuel : Nat} {v : Value} {x : DataW H × List MemPlace}
    (ht : P.underlying t = some (.slice e)) (he : P.underlying e = some (.int .i64)) (hc : P.cellsOf e = 1) (h : DataW.trod enc P W base spare held fuel t [v] = some x) :
    ∃ (A : Option Addr) (l : List Int) (c : Nat), v = .slice A l.length c ∧ l.length ≤ c ∧ l.length ≤ 9223372036854775807 ∧ Kd.C (Kd.int .i64) W A l.length l ∧ (∀ n ∈ l, (Lit.int .i64 n).wf = true) := by
  rcases open_ints ht he hc h with ⟨hcs, _⟩ | ⟨a, len, cap, zs, hcs, _, hl, hm, hz, _, hcell, hwz⟩
  · simp only [List.cons.injEq, and_true] at hcs
    exact ⟨none, [], 0, hcs, by simp, by simp, ⟨rfl, by simp, fun h0 => absurd h0 (by simp)⟩, by simp⟩
  · simp only [List.cons.injEq, and_true] at hcs
    have hle : len ≤ zs.length := by rw [hz]; split <;> omega
    have hlen : (zs.take len).length = len := by rw [List.length_take]; omega
    have hmx : cap ≤ 9223372036854775807 := by simpa [maxLen] using hm
    refine ⟨some a, zs.take len, cap, by rw [hcs, hlen], by omega, by omega, ⟨rfl, by omega, fun _ => ⟨a, rfl, fun j p hp => ⟨[.int .i64 p], rfl, rfl, fun i u hu => ?_⟩⟩⟩, fun n hn => hwz n (List.mem_of_mem_take hn)⟩
    have hj : j < (zs.take len).length := (List.getElem?_eq_some_iff.1 hp).1
    obtain rfl : i = 0 := by
      rcases i with _ | i
      · rfl
      · simp at hu
    simp only [List.getElem?_cons_zero, Option.some.injEq] at hu
    subst hu
    have h1 := hcell j (by omega)
    have h2 : zs.getD j 0 = p := by
      rw [List.getElem?_take, if_pos (by omega)] at hp
      simp [List.getD_eq_getElem?_getD, hp]
    rw [h2] at h1
    show W.cell? (a.add (j * 1 + 0)) = _
    simpa using h1
open Go.Proofs.YtemgbakjlbdibaaW.PrintWords in
/-- A slice, opened element by element: whoever can open one element's cells has the whole row as a list. -/
theorem open_sl_C {H α : Type} [Inhabited α] {enc : TypeId × Value → H} {P : Program} {W : World} {base : Nat} {spare : Nat → Bool} {held : Bool} {t e : TypeId} {fuel : Nat} {v : Value} {x : DataW H × List MemPlace} (d : Kd α) (good : α → Prop)
    (ht : P.underlying t = some (.slice e)) (hc : P.cellsOf e = d.sz) (h : DataW.trod enc P W base spare held fuel t [v] = some x)
    (one : ∀ (n : Nat) (cs : List Value) (y : DataW H × List MemPlace), DataW.trod enc P W base spare held n e cs = some y → ∃ a, d.K W a cs ∧ good a) :
    ∃ (A : Option Addr) (l : List α) (c : Nat), v = .slice A l.length c ∧ l.length ≤ c ∧ l.length ≤ 9223372036854775807 ∧ Kd.C d W A l.length l ∧ (∀ a ∈ l, good a) := by
  rcases Go.Deep.open_slice ht h with ⟨hcs, _⟩ | ⟨a, len, cap, m, n, D, Pl, hcs, _, hl, hm, hmm, _, hel⟩
  · simp only [List.cons.injEq, and_true] at hcs
    exact ⟨none, [], 0, hcs, by simp, by simp, ⟨rfl, by simp, fun h0 => absurd h0 (by simp)⟩, by simp⟩
  · simp only [List.cons.injEq, and_true] at hcs
    have hle : len ≤ m := by rw [hmm]; split <;> omega
    have hmx : cap ≤ 9223372036854775807 := by simpa [maxLen] using hm
    have each : ∀ i, i < len → ∃ y : α, (∃ cs', W.cells? base (a.add (i * P.cellsOf e)) (P.cellsOf e) = some cs' ∧ d.K W y cs') ∧ good y := fun i hi => by
      obtain ⟨cs', h1, h2⟩ := hel i (by omega)
      obtain ⟨y, hy, hg⟩ := one n cs' _ h2
      exact ⟨y, ⟨cs', h1, hy⟩, hg⟩
    obtain ⟨f, hf⟩ := Go.Deep.choose_lt each
    have hlen : ((List.range len).map f).length = len := by simp
    refine ⟨some a, (List.range len).map f, cap, by rw [hlen]; exact hcs, by omega, by omega, ⟨rfl, by omega, fun _ => ⟨a, rfl, fun j p hp => ?_⟩⟩, fun y hy => ?_⟩
    · have hj : j < len := by have := (List.getElem?_eq_some_iff.1 hp).1; omega
      rw [List.getElem?_map, List.getElem?_range hj] at hp
      simp only [Option.map_some, Option.some.injEq] at hp
      subst hp
      obtain ⟨⟨cs', h1, h2⟩, _⟩ := hf j hj
      obtain ⟨_, hlc, hcell⟩ := World.cells?_some h1
      refine ⟨cs', d.K_len h2, h2, fun i u hu => ?_⟩
      have := hcell i (by rw [← hlc]; exact (List.getElem?_eq_some_iff.1 hu).1)
      rw [Go.Deep.add_add, hc, hu] at this
      exact this
    · obtain ⟨j, hj, rfl⟩ := List.mem_map.1 hy
      exact (hf j (List.mem_range.1 hj)).2
theorem one_bool {H : Type} {enc : TypeId × Value → H} {W : World} {base : Nat} {spare : Nat → Bool} {held : Bool} (n : Nat) (cs : List Value) (y : DataW H × List MemPlace) (h : DataW.trod enc Try.prog W base spare held n 4 cs = some y) :
    ∃ a : Bool, Kd.bool.K W a cs ∧ True := by
  obtain ⟨b, rfl, _⟩ := DataW.trod_bool Try.underlying4 h
  exact ⟨b, rfl, trivial⟩
theorem one_ints {H : Type} {enc : TypeId × Value → H} {W : World} {base : Nat} {spare : Nat → Bool} {held : Bool} (n : Nat) (cs : List Value) (y : DataW H × List MemPlace) (h : DataW.trod enc Try.prog W base spare held n 24 cs = some y) :
    ∃ a : List Int, (Kd.slice 3 (Kd.int .i64)).K W a cs ∧ a.length ≤ 9223372036854775807 := by
  obtain ⟨v, rfl⟩ : ∃ v, cs = [v] := by
    rcases Go.Deep.open_slice Try.underlying24 h with ⟨e, _⟩ | ⟨a, len, cap, m, n, D, Pl, e, _⟩
    · exact ⟨_, e⟩
    · exact ⟨_, e⟩
  obtain ⟨A, l, c, rfl, hle, hmx, hr, _⟩ := open_ints_C Try.underlying24 Try.underlying3 (by kernel_rfl) h
  exact ⟨l, ⟨A, c, rfl, hle, hr⟩, hmx⟩
theorem wrap_in {x : Int} (h0 : -9223372036854775808 ≤ x) (h1 : x ≤ 9223372036854775807) : wrap64 x = x := by unfold wrap64; omega
theorem rd_nat (l : List Int) (i : Nat) : rd l (i : Int) = l.getD i 0 := by unfold rd; simp
theorem rd_at (l : List Int) (i : Nat) (h : i < l.length) : rd l (i : Int) = l[i] := by rw [rd_nat]; simp [h]
/-- A copying loop: what has been copied, then what is still to be overwritten. -/
theorem copy_step {α β : Type} (f : α → β) (z : β) (l : List α) (i : Nat) (h : i < l.length) :
    ((l.take i).map f ++ List.replicate (l.length - i) z).set i (f l[i]) = (l.take (i + 1)).map f ++ List.replicate (l.length - (i + 1)) z := by
  rw [List.set_append, if_neg (by simp; omega)]
  rw [show l.length - i = (l.length - (i + 1)) + 1 by omega, List.replicate_succ]
  simp only [List.length_map, List.length_take, Nat.min_eq_left (Nat.le_of_lt h), Nat.sub_self, List.set_cons_zero]
  rw [List.take_succ_eq_append_getElem h, List.map_append, List.append_assoc]; rfl
theorem copy_step1 (z : Int) (l : List Int) (i : Nat) (h : i < l.length) :
    (l.take i ++ List.replicate (l.length - i) z).set i l[i] = l.take (i + 1) ++ List.replicate (l.length - (i + 1)) z := by
  have := copy_step (fun x : Int => x) z l i h
  simpa using this
theorem toIntS_go (l : List Int) (hn : l.length ≤ 1048576) (d : Nat) : ∀ (k i : Nat), i ≤ l.length → l.length - i = d → d < k → laws_toIntS.l0 k l (l.take i ++ List.replicate (l.length - i) 0) i = some l := by
  induction d with
  | zero =>
    intro k i h0 hd hk
    obtain ⟨k, rfl⟩ : ∃ m, k = m + 1 := ⟨k - 1, by omega⟩
    obtain rfl : i = l.length := by omega
    simp only [laws_toIntS.l0]; rw [if_neg (by omega)]; simp
  | succ d ih =>
    intro k i h0 hd hk
    obtain ⟨k, rfl⟩ : ∃ m, k = m + 1 := ⟨k - 1, by omega⟩
    have hlt : i < l.length := by omega
    simp only [laws_toIntS.l0]
    rw [if_pos (by omega), if_pos (by omega), if_pos (by simp; omega), rd_at l i hlt, Int.toNat_natCast, copy_step1 0 l i hlt, wrap_in (by omega) (by omega)]
    exact ih k (i + 1) (by omega) (by omega) (by omega)
theorem toIntS_eq (l : List Int) (hn : l.length ≤ 1048576) (k : Nat) (hk : l.length < k) : laws_toIntS.f k l = some l := by
  unfold laws_toIntS.f
  rw [if_pos (by omega), if_pos (by simp; omega)]
  have := toIntS_go l hn l.length k 0 (by omega) (by omega) hk
  simpa using this
theorem eqIntS_go (l : List Int) (hn : l.length ≤ 1048576) (d : Nat) : ∀ (k i : Nat), i ≤ l.length → l.length - i = d → d < k → laws_eqIntS.l0 k l l i = some true := by
  induction d with
  | zero =>
    intro k i h0 hd hk
    obtain ⟨k, rfl⟩ : ∃ m, k = m + 1 := ⟨k - 1, by omega⟩
    simp only [laws_eqIntS.l0]; rw [if_neg (by omega)]
  | succ d ih =>
    intro k i h0 hd hk
    obtain ⟨k, rfl⟩ : ∃ m, k = m + 1 := ⟨k - 1, by omega⟩
    simp only [laws_eqIntS.l0]
    rw [if_pos (by omega), if_pos (by omega), if_pos (by omega), wrap_in (by omega) (by omega)]
    exact ih k (i + 1) (by omega) (by omega) (by omega)
theorem eqIntS_eq (l : List Int) (hn : l.length ≤ 1048576) (k : Nat) (hk : l.length < k) : laws_eqIntS.f k l l = some true := by
  unfold laws_eqIntS.f
  rw [if_pos rfl]
  exact eqIntS_go l hn l.length k 0 (by omega) (by omega) hk
/-- The budget of the sizes, behind a list of ints. -/
theorem szIntS_eq (l : List Int) (a : Int) (h0 : 0 ≤ a) (h1 : a ≤ 1048576) (hl : l.length ≤ 9223372036854775807) : laws_szIntS.f l a = some (if (l.length : Int) ≤ a then a - l.length else -1) := by
  unfold laws_szIntS.f
  rw [wrap_in (by omega) (by omega)]
  by_cases h : (l.length : Int) ≤ a
  · rw [if_neg (by omega), if_pos h]
  · rw [if_pos (by omega), if_neg h]
def NB : Nat := 9223372036854775807
theorem loop_val {β : Type} (g : Nat → Nat → Option β) (n K : Nat) (v : Option β) (step : ∀ k i, K ≤ k → i < n → g (k + 1) i = g k (i + 1)) (stop : ∀ k, K ≤ k → g (k + 1) n = v) : ∀ k, K + n < k → g k 0 = v := by
  have : ∀ d i k, i ≤ n → n - i = d → K + d < k → g k i = v := by
    intro d
    induction d with
    | zero =>
      intro i k h0 hd hk
      obtain ⟨k, rfl⟩ : ∃ m, k = m + 1 := ⟨k - 1, by omega⟩
      obtain rfl : i = n := by omega
      exact stop k (by omega)
    | succ d ih =>
      intro i k h0 hd hk
      obtain ⟨k, rfl⟩ : ∃ m, k = m + 1 := ⟨k - 1, by omega⟩
      rw [step k i (by omega) (by omega)]
      exact ih (i + 1) k (by omega) (by omega) (by omega)
  intro k hk
  exact this n 0 k (Nat.zero_le _) (by omega) hk
theorem loop_all (g : Nat → Nat → Option Bool) (n K : Nat) (p : Nat → Bool) (step : ∀ k i, K ≤ k → i < n → g (k + 1) i = if p i = true then g k (i + 1) else some false) (stop : ∀ k, K ≤ k → g (k + 1) n = some true) :
    ∀ k, K + n < k → g k 0 = some ((List.range n).all p) := by
  have : ∀ d i k, i ≤ n → n - i = d → K + d < k → (∀ j, j < i → p j = true) → g k i = some ((List.range n).all p) := by
    intro d
    induction d with
    | zero =>
      intro i k h0 hd hk hp
      obtain ⟨k, rfl⟩ : ∃ m, k = m + 1 := ⟨k - 1, by omega⟩
      obtain rfl : i = n := by omega
      rw [stop k (by omega), List.all_eq_true.2 fun x hx => hp x (List.mem_range.1 hx)]
    | succ d ih =>
      intro i k h0 hd hk hp
      obtain ⟨k, rfl⟩ : ∃ m, k = m + 1 := ⟨k - 1, by omega⟩
      rw [step k i (by omega) (by omega)]
      by_cases h : p i = true
      · rw [if_pos h]
        exact ih (i + 1) k (by omega) (by omega) (by omega) (fun j hj => by
          by_cases e : j = i
          · subst e; exact h
          · exact hp j (by omega))
      · rw [if_neg h]
        have : (List.range n).all p = false := List.all_eq_false.2 ⟨i, List.mem_range.2 (by omega), h⟩
        rw [this]
  intro k hk
  exact this n 0 k (Nat.zero_le _) (by omega) hk (fun j hj => absurd hj (Nat.not_lt_zero _))
theorem range_all {α : Type} (l : List α) (z : α) (p : α → Bool) : (List.range l.length).all (fun i => p (l.getD i z)) = l.all p := by
  rw [Bool.eq_iff_iff, List.all_eq_true, List.all_eq_true]
  constructor
  · intro h x hx
    obtain ⟨j, hj, rfl⟩ := List.getElem_of_mem hx
    have := h j (List.mem_range.2 hj)
    simpa [hj] using this
  · intro h i hi
    have hi := List.mem_range.1 hi
    have := h l[i] (List.getElem_mem hi)
    simpa [hi] using this
theorem rdOf_nat (l : List Bool) (i : Nat) : rdOf false l (i : Int) = l.getD i false := by unfold rdOf; simp
theorem rdOf_at (l : List Bool) (i : Nat) (h : i < l.length) : rdOf false l (i : Int) = l[i] := by rw [rdOf_nat]; simp [h]
theorem rdL2_nat (l : List (List Int)) (i : Nat) : rd_L2 l (i : Int) = l.getD i [] := by unfold rd_L2; simp
theorem rdL2_at (l : List (List Int)) (i : Nat) (h : i < l.length) : rd_L2 l (i : Int) = l[i] := by rw [rdL2_nat]; simp [h]

/-! ### lists of bools -/
theorem toBoolS_eq (l : List Bool) (hn : l.length ≤ 1048576) (k : Nat) (hk : l.length < k) : laws_toBoolS.f k l = some l := by
  unfold laws_toBoolS.f
  rw [if_pos (by omega), if_pos (by simp; omega)]
  have := loop_val (fun k i => laws_toBoolS.l0 k l ((l.take i).map id ++ List.replicate (l.length - i) false) i) l.length 0 (some l) ?_ ?_ k (by omega)
  · simpa using this
  · intro k i _ h
    simp only [laws_toBoolS.l0]
    rw [if_pos (by omega), if_pos (by omega), if_pos (by simp; omega), rdOf_at l i h, Int.toNat_natCast, wrap_in (by omega) (by omega)]
    rw [show l[i] = id l[i] from rfl, copy_step id false l i h]
    rfl
  · intro k _
    simp only [laws_toBoolS.l0]; rw [if_neg (by omega)]; simp
theorem eqBoolS_eq (l : List Bool) (hn : l.length ≤ 1048576) (k : Nat) (hk : l.length < k) : laws_eqBoolS.f k l l = some true := by
  unfold laws_eqBoolS.f
  rw [if_pos rfl]
  have := loop_val (fun k i => laws_eqBoolS.l0 k l l i) l.length 0 (some true) ?_ ?_ k (by omega)
  · simpa using this
  · intro k i _ h
    simp only [laws_eqBoolS.l0]
    rw [if_pos (by omega), if_pos (by omega), if_pos (by omega), if_neg (by simp), wrap_in (by omega) (by omega)]
    rfl
  · intro k _
    simp only [laws_eqBoolS.l0]; rw [if_neg (by omega)]
theorem szBoolS_eq (l : List Bool) (a : Int) (h0 : 0 ≤ a) (h1 : a ≤ 1048576) (hl : l.length ≤ 9223372036854775807) : laws_szBoolS.f l a = some (if (l.length : Int) ≤ a then a - l.length else -1) := by
  unfold laws_szBoolS.f
  rw [wrap_in (by omega) (by omega)]
  by_cases h : (l.length : Int) ≤ a
  · rw [if_neg (by omega), if_pos h]
  · rw [if_pos (by omega), if_neg h]

/-! ### lists of lists of ints -/
def bigSS (F : List (List Int)) : Prop := F.length ≤ 1048576 ∧ ∀ x ∈ F, x.length ≤ 1048576
theorem toIntSS_eq (l : List (List Int)) (hb : bigSS l) (k : Nat) (hk : 1048577 + l.length < k) : laws_toIntSS.f k l = some l := by
  have hn := hb.1
  unfold laws_toIntSS.f
  rw [if_pos (by omega), if_pos (by simp; omega)]
  have := loop_val (fun k i => laws_toIntSS.l0 k l ((l.take i).map id ++ List.replicate (l.length - i) []) i) l.length 1048577 (some l) ?_ ?_ k (by omega)
  · simpa using this
  · intro k i hK h
    have h3 := hb.2 _ (List.getElem_mem h)
    simp only [laws_toIntSS.l0]
    rw [if_pos (by omega), if_pos (by omega), rdL2_at l i h, toIntS_eq _ h3 _ (by omega)]
    simp only [Option.bind_some]
    rw [if_pos (by simp; omega), Int.toNat_natCast, wrap_in (by omega) (by omega)]
    rw [show l[i] = id l[i] from rfl, copy_step id [] l i h]
    rfl
  · intro k _
    simp only [laws_toIntSS.l0]; rw [if_neg (by omega)]; simp
theorem eqIntSS_eq (l : List (List Int)) (hb : bigSS l) (k : Nat) (hk : 1048577 + l.length < k) : laws_eqIntSS.f k l l = some true := by
  have hn := hb.1
  unfold laws_eqIntSS.f
  rw [if_pos rfl]
  have := loop_val (fun k i => laws_eqIntSS.l0 k l l i) l.length 1048577 (some true) ?_ ?_ k (by omega)
  · simpa using this
  · intro k i hK h
    have h3 := hb.2 _ (List.getElem_mem h)
    simp only [laws_eqIntSS.l0]
    rw [if_pos (by omega), if_pos (by omega), if_pos (by omega), rdL2_at l i h, eqIntS_eq _ h3 _ (by omega)]
    simp only [Option.bind_some, if_true]
    rw [wrap_in (by omega) (by omega)]
    rfl
  · intro k _
    simp only [laws_eqIntSS.l0]; rw [if_neg (by omega)]
theorem szSS_go (l : List (List Int)) (hn : l.length ≤ 1048576) (hs : ∀ x ∈ l, x.length ≤ 9223372036854775807) (d : Nat) : ∀ (k i : Nat) (a : Int), i ≤ l.length → l.length - i = d → d < k → 0 ≤ a → a ≤ 1048576 →
    ∃ r, laws_szIntSS.l0 k l a i = some r ∧ (0 ≤ r → r ≤ a ∧ ∀ j (hj : j < l.length), i ≤ j → l[j].length ≤ 1048576) := by
  induction d with
  | zero =>
    intro k i a h0 hd hk ha ha1
    obtain ⟨k, rfl⟩ : ∃ m, k = m + 1 := ⟨k - 1, by omega⟩
    refine ⟨a, ?_, fun _ => ⟨by omega, fun j hj hij => by omega⟩⟩
    simp only [laws_szIntSS.l0]; rw [if_neg (by omega)]
  | succ d ih =>
    intro k i a h0 hd hk ha ha1
    obtain ⟨k, rfl⟩ : ∃ m, k = m + 1 := ⟨k - 1, by omega⟩
    have hlt : i < l.length := by omega
    simp only [laws_szIntSS.l0]
    rw [if_pos (by omega), if_pos (by omega), rdL2_at l i hlt, szIntS_eq l[i] a ha ha1 (hs _ (List.getElem_mem hlt))]
    simp only [Option.bind_some]
    by_cases h : (l[i].length : Int) ≤ a
    · rw [if_pos h, if_neg (by omega), wrap_in (by omega) (by omega)]
      obtain ⟨r, hr, hb⟩ := ih k (i + 1) (a - l[i].length) (by omega) (by omega) (by omega) (by omega) (by omega)
      refine ⟨r, hr, fun hr0 => ⟨by have := (hb hr0).1; omega, fun j hj hij => ?_⟩⟩
      by_cases e : j = i
      · subst e; omega
      · exact (hb hr0).2 j hj (by omega)
    · rw [if_neg h, if_pos (by omega)]
      exact ⟨-1, rfl, fun h => by omega⟩
theorem szSS_eq (l : List (List Int)) (a : Int) (h0 : 0 ≤ a) (h1 : a ≤ 1048576) (hl : l.length ≤ 9223372036854775807) (hs : ∀ x ∈ l, x.length ≤ 9223372036854775807) (k : Nat) (hk : 1048577 < k) : ∃ r, laws_szIntSS.f k l a = some r ∧ (0 ≤ r → r ≤ a ∧ bigSS l) := by
  unfold laws_szIntSS.f
  rw [wrap_in (by omega) (by omega)]
  by_cases h : (l.length : Int) ≤ a
  · rw [if_neg (by omega)]
    obtain ⟨r, hr, hb⟩ := szSS_go l (by omega) hs l.length k 0 (a - l.length) (by omega) (by omega) (by omega) (by omega) (by omega)
    refine ⟨r, hr, fun h0 => ⟨by have := (hb h0).1; omega, by omega, fun x hx => ?_⟩⟩
    obtain ⟨j, hj, rfl⟩ := List.getElem_of_mem hx
    exact (hb h0).2 j hj (Nat.zero_le _)
  · rw [if_pos (by omega)]; exact ⟨-1, rfl, fun h => by omega⟩

/-! ### heaps -/
structure BigH (F : List (List Int)) (L : List Bool) (R : List Int) : Prop where
  f : bigSS F
  l : L.length ≤ 1048576
  r : R.length ≤ 1048576
/-- What the opened argument gives. -/
structure OkH (F : List (List Int)) (L : List Bool) (R : List Int) : Prop where
  f : F.length ≤ 9223372036854775807
  fs : ∀ x ∈ F, x.length ≤ 9223372036854775807
  l : L.length ≤ 9223372036854775807
  r : R.length ≤ 9223372036854775807
theorem szHeap_eq (F : List (List Int)) (L : List Bool) (R : List Int) (hok : OkH F L R) (a : Int) (h0 : 0 ≤ a) (h1 : a ≤ 1048576) (k : Nat) (hk : 1048577 < k) : ∃ r, laws_szHeap.f k F L R a = some r ∧ (0 ≤ r → r ≤ a ∧ BigH F L R) := by
  unfold laws_szHeap.f
  obtain ⟨r, hr, hb⟩ := szSS_eq F a h0 h1 hok.f hok.fs k hk
  rw [hr]; simp only [Option.bind_some]
  by_cases c : r < 0
  · rw [if_pos c]; exact ⟨-1, rfl, fun h => by omega⟩
  · rw [if_neg c]
    obtain ⟨b0, b1⟩ := hb (by omega)
    rw [szBoolS_eq L r (by omega) (by omega) hok.l]; simp only [Option.bind_some]
    by_cases c2 : (L.length : Int) ≤ r
    · rw [if_pos c2, if_neg (by omega), szIntS_eq R _ (by omega) (by omega) hok.r]; simp only [Option.bind_some]
      by_cases c3 : (R.length : Int) ≤ r - L.length
      · rw [if_pos c3, if_neg (by omega)]
        exact ⟨_, rfl, fun _ => ⟨by omega, b1, by omega, by omega⟩⟩
      · rw [if_neg c3, if_pos (by omega)]; exact ⟨-1, rfl, fun h => by omega⟩
    · rw [if_neg c2, if_pos (by omega)]; exact ⟨-1, rfl, fun h => by omega⟩
theorem toHeap_eq (F : List (List Int)) (L : List Bool) (R : List Int) (hb : BigH F L R) (k : Nat) (hk : 2097160 < k) : laws_toHeap.f k F L R = some (F, L, R) := by
  have h1 := hb.f.1
  have h2 := hb.l
  have h3 := hb.r
  unfold laws_toHeap.f
  rw [toIntSS_eq F hb.f k (by omega)]; simp only [Option.bind_some]
  rw [toBoolS_eq L hb.l k (by omega)]; simp only [Option.bind_some]
  rw [toIntS_eq R hb.r k (by omega)]; simp only [Option.bind_some]
theorem eqHeap_eq (F : List (List Int)) (L : List Bool) (R : List Int) (hb : BigH F L R) (k : Nat) (hk : 2097160 < k) : laws_eqHeap.f k F L R F L R = some true := by
  have h1 := hb.f.1
  have h2 := hb.l
  have h3 := hb.r
  unfold laws_eqHeap.f
  rw [eqIntSS_eq F hb.f k (by omega)]; simp only [Option.bind_some, if_true]
  rw [eqBoolS_eq L hb.l k (by omega)]; simp only [Option.bind_some, if_true]
  rw [eqIntS_eq R hb.r k (by omega)]; simp only [Option.bind_some, if_true]

/-! ### what a heap is -/
theorem in_eq (n lo hi : Int) : spec_l1In.f n lo hi = some (decide (lo ≤ n ∧ n ≤ hi)) := by
  unfold spec_l1In.f
  by_cases h : n ≥ lo
  · rw [if_pos h]; congr 1; simp [h]
  · rw [if_neg h]; congr 1; simp; omega
theorem getD_neg {α : Type} {l : List α} {i : Nat} {z : α} (h : l.length ≤ i) : l.getD i z = z := by rw [List.getD_eq_getElem?_getD, List.getElem?_eq_none h]; rfl
theorem Names_eq (L : List Bool) (f : List Int) (hL : L.length ≤ 1048576) (hf : f.length ≤ 1048576) (k : Nat) (hk : f.length < k) : spec_l5Names.f k L f = some (f.all (G.isRefB L)) := by
  unfold spec_l5Names.f
  rw [← range_all f 0 (G.isRefB L)]
  refine loop_all (fun k i => spec_l5Names.l0 k L f f.length i) f.length 0 (fun i => G.isRefB L (f.getD i 0)) ?_ ?_ k (by omega)
  · intro k i _ h
    simp only [spec_l5Names.l0]
    rw [if_pos (by omega), if_pos (by omega), if_pos (by omega), rd_nat, in_eq, wrap_in (by omega) (by omega), wrap_in (by omega) (by omega)]; simp only [Option.bind_some]
    generalize f.getD i 0 = x
    unfold G.isRefB
    by_cases h1 : x = -1
    · subst h1
      have : decide (-1 ≤ (-1 : Int) ∧ -1 ≤ (L.length : Int) - 1) = true := decide_eq_true (by omega)
      rw [this]; simp
    · have e1 : (x == -1) = false := by simpa using h1
      rw [e1, Bool.false_or]
      by_cases h2 : -1 ≤ x ∧ x ≤ (L.length : Int) - 1
      · have h0 : 0 ≤ x := by omega
        rw [decide_eq_true h2, if_pos rfl, if_pos h0, if_pos h0, if_pos (by omega), decide_eq_true h0, Bool.true_and]; rfl
      · rw [decide_eq_false h2, if_neg (by simp)]
        by_cases h0 : 0 ≤ x
        · rw [getD_neg (by omega)]; simp
        · rw [decide_eq_false h0]; simp
  · intro k _
    simp only [spec_l5Names.l0]; rw [if_neg (by omega)]
theorem GoodHeap_eq (F : List (List Int)) (L : List Bool) (R : List Int) (hb : BigH F L R) (k : Nat) (hk : 2097160 < k) : spec_GoodHeap.f k F L R = some (G.goodHeapB F L R 12) := by
  have hF := hb.f.1
  have hL := hb.l
  have hR := hb.r
  obtain ⟨k, rfl⟩ : ∃ m, k = m + 1 := ⟨k - 1, by omega⟩
  have hf : ∀ k0, spec_GoodHeap.j0 (k0 + 1) true F L R = some false := fun k0 => by simp [spec_GoodHeap.j0]
  unfold spec_GoodHeap.f G.goodHeapB
  by_cases c1 : (F.length : Int) > 12
  · rw [if_pos c1, hf, decide_eq_false (by omega)]; simp
  · rw [if_neg c1, decide_eq_true (by omega)]
    by_cases c2 : (L.length : Int) = F.length
    · rw [if_pos c2, decide_eq_true (p := L.length = F.length) (by omega)]
      by_cases c3 : (R.length : Int) > 4
      · rw [if_pos c3, hf, decide_eq_false (by omega)]; simp
      · rw [if_neg c3, decide_eq_true (by omega), Names_eq L R hL hR (k + 1) (by omega)]; simp only [Option.bind_some]
        cases hR0 : R.all (G.isRefB L) with
        | false => rw [Bool.not_false, hf]; simp
        | true =>
          simp only [Bool.not_true, spec_GoodHeap.j0]
          rw [if_neg (by simp), Bool.true_and, Bool.true_and, Bool.true_and, Bool.and_true]
          refine loop_all (fun k i => spec_GoodHeap.l0 k F F.length i F L R) F.length 1048577 (fun i => decide ((F.getD i []).length ≤ 3) && (L.getD i false || (F.getD i []).isEmpty) && (F.getD i []).all (G.isRefB L)) ?_ ?_ k (by omega)
          · intro k i hK h
            have h3 := hb.f.2 _ (List.getElem_mem h)
            have e : F.getD i [] = F[i] := by simp [h]
            simp only [spec_GoodHeap.l0]
            rw [if_pos (by omega), if_pos (by omega), if_pos (by omega), rdL2_at F i h, e, rdOf_nat, if_pos (show (i : Int) < (L.length : Int) by omega)]
            generalize F[i] = row at *
            by_cases d1 : (row.length : Int) > 3
            · rw [if_pos d1, decide_eq_false (by omega)]; simp
            · rw [if_neg d1, decide_eq_true (by omega), Names_eq L row hL h3 k (by omega), wrap_in (by omega) (by omega)]; simp only [Option.bind_some]
              cases L.getD i false with
              | true => simp
              | false =>
                rw [if_neg (by simp)]
                by_cases d2 : (row.length : Int) > 0
                · have : row.isEmpty = false := by cases row with
                    | nil => simp at d2
                    | cons => rfl
                  rw [if_pos d2, this]; simp
                · have : row = [] := List.length_eq_zero_iff.1 (by omega)
                  subst this
                  rw [if_neg d2]; simp
          · intro k _
            simp only [spec_GoodHeap.l0]; rw [if_neg (by omega)]
    · rw [if_neg c2, hf, decide_eq_false (p := L.length = F.length) (by omega)]; simp

end Go.Proofs.Ytemgbakjlbdibaa.QB
