import Derived.Test.YtemgbakjlbdibaaGd
namespace Go.Proofs.Ytemgbakjlbdibaa.G
open Go.RowKit Go.Proofs.YtemgbakjlbdibaaW.PrintWords
set_option linter.unusedVariables false
/-- What is reachable from names through fields, over objects that may be passed. -/
inductive Reaches (F : List (List Int)) (from_ : List Int) (may : Nat → Bool) : Nat → Prop
  | root (k : Nat) (h : (k : Int) ∈ from_) (hm : may k = true) : Reaches F from_ may k
  | field (i k : Nat) (hi : Reaches F from_ may i) (h : (k : Int) ∈ F.getD i []) (hm : may k = true) : Reaches F from_ may k
open Classical in
/-- The set of them, as a row of bools. -/
noncomputable def reachB (F : List (List Int)) (from_ : List Int) (may : Nat → Bool) : List Bool := (List.range F.length).map fun k => decide (Reaches F from_ may k)
theorem reachB_length (F : List (List Int)) (from_ : List Int) (may : Nat → Bool) : (reachB F from_ may).length = F.length := by simp [reachB]
theorem reachB_get (F : List (List Int)) (from_ : List Int) (may : Nat → Bool) (k : Nat) (hk : k < F.length) : (reachB F from_ may).getD k false = true ↔ Reaches F from_ may k := by
  simp [reachB, hk]
/-- The state of a search: what is marked, what is still to be looked at. -/
structure SInv (F : List (List Int)) (from_ : List Int) (may : Nat → Bool) (out : List Bool) (q : List Int) : Prop where
  len : out.length = F.length
  inq : ∀ x ∈ q, x < (F.length : Int)
  reach : ∀ x ∈ q, 0 ≤ x → may x.toNat = true → Reaches F from_ may x.toNat
  sound : ∀ k, out.getD k false = true → Reaches F from_ may k
  closed : ∀ i k : Nat, out.getD i false = true → (k : Int) ∈ F.getD i [] → may k = true → out.getD k false = true ∨ (k : Int) ∈ q
  roots : ∀ k : Nat, (k : Int) ∈ from_ → may k = true → out.getD k false = true ∨ (k : Int) ∈ q
theorem getD_set {l : List Bool} {k j : Nat} (hk : k < l.length) : (l.set k true).getD j false = if j = k then true else l.getD j false := by
  simp only [List.getD_eq_getElem?_getD, List.getElem?_set]
  by_cases h : k = j
  · subst h; simp [hk]
  · rw [if_neg h, if_neg (fun e => h e.symm)]
theorem SInv.start (F : List (List Int)) (from_ : List Int) (may : Nat → Bool) (hf : ∀ x ∈ from_, x < (F.length : Int)) : SInv F from_ may (List.replicate F.length false) from_ := by
  have h0 : ∀ k, (List.replicate F.length false).getD k false = false := fun k => by
    rw [List.getD_eq_getElem?_getD, List.getElem?_replicate]; split <;> rfl
  refine ⟨by simp, hf, fun x hx h0 hm => .root _ (by rw [Int.toNat_of_nonneg h0]; exact hx) hm, fun k h => ?_, fun i k h => ?_, fun k hk hm => .inr hk⟩
  · rw [h0] at h; cases h
  · rw [h0] at h; cases h
theorem SInv.skip {F : List (List Int)} {from_ : List Int} {may : Nat → Bool} {out : List Bool} {q rest : List Int} {x : Int} (h : SInv F from_ may out q) (hq : ∀ y, y ∈ q ↔ y = x ∨ y ∈ rest)
    (hs : x < 0 ∨ out.getD x.toNat false = true ∨ may x.toNat = false) : SInv F from_ may out rest := by
  have drop : ∀ k : Nat, may k = true → (k : Int) ∈ q → out.getD k false = true ∨ (k : Int) ∈ rest := by
    intro k hm hk
    rcases (hq _).1 hk with e | hr
    · rcases hs with hs | hs | hs
      · omega
      · rw [← e] at hs; exact .inl (by simpa using hs)
      · rw [← e] at hs; simp [hm] at hs
    · exact .inr hr
  refine ⟨h.len, fun y hy => h.inq y ((hq y).2 (.inr hy)), fun y hy => h.reach y ((hq y).2 (.inr hy)), h.sound, fun i k hi hk hm => ?_, fun k hk hm => ?_⟩
  · rcases h.closed i k hi hk hm with h1 | h1
    · exact .inl h1
    · exact drop k hm h1
  · rcases h.roots k hk hm with h1 | h1
    · exact .inl h1
    · exact drop k hm h1
theorem SInv.mark {F : List (List Int)} {from_ : List Int} {may : Nat → Bool} {out : List Bool} {q rest : List Int} {n : Nat} (h : SInv F from_ may out q) (hq : ∀ y, y ∈ q ↔ y = (n : Int) ∨ y ∈ rest)
    (hm0 : may n = true) (hF : ∀ x ∈ F.getD n [], x < (F.length : Int)) : SInv F from_ may (out.set n true) (rest ++ F.getD n []) := by
  have hnl : n < F.length := by have := h.inq n ((hq _).2 (.inl rfl)); omega
  have hno : n < out.length := by rw [h.len]; exact hnl
  have hrn : Reaches F from_ may n := by simpa using h.reach n ((hq _).2 (.inl rfl)) (by omega) (by simpa using hm0)
  have drop : ∀ k : Nat, may k = true → (out.getD k false = true ∨ (k : Int) ∈ q) → (out.set n true).getD k false = true ∨ (k : Int) ∈ rest ++ F.getD n [] := by
    intro k hm hk
    rcases hk with hk | hk
    · left; rw [getD_set hno]; split
      · rfl
      · exact hk
    · rcases (hq _).1 hk with e | hr
      · left; rw [getD_set hno, if_pos (by omega)]
      · exact .inr (List.mem_append_left _ hr)
  refine ⟨by rw [List.length_set]; exact h.len, fun y hy => ?_, fun y hy h0 hm => ?_, fun k hk => ?_, fun i k hi hk hm => ?_, fun k hk hm => drop k hm (h.roots k hk hm)⟩
  · rcases List.mem_append.1 hy with hy | hy
    · exact h.inq y ((hq y).2 (.inr hy))
    · exact hF y hy
  · rcases List.mem_append.1 hy with hy | hy
    · exact h.reach y ((hq y).2 (.inr hy)) h0 hm
    · exact .field n _ hrn (by rw [Int.toNat_of_nonneg h0]; exact hy) hm
  · rw [getD_set hno] at hk
    split at hk
    · next e => subst e; exact hrn
    · exact h.sound k hk
  · rw [getD_set hno] at hi
    split at hi
    · next e => subst e; exact .inr (List.mem_append_right _ hk)
    · exact drop k hm (h.closed i k hi hk hm)
theorem SInv.stop {F : List (List Int)} {from_ : List Int} {may : Nat → Bool} {out : List Bool} (h : SInv F from_ may out []) : out = reachB F from_ may := by
  have compl : ∀ k, Reaches F from_ may k → out.getD k false = true := by
    intro k hk
    induction hk with
    | root k hk hm =>
      rcases h.roots k hk hm with h1 | h1
      · exact h1
      · cases h1
    | field i k hi hk hm ih =>
      rcases h.closed i k ih hk hm with h1 | h1
      · exact h1
      · cases h1
  apply List.ext_getElem
  · rw [h.len, reachB_length]
  · intro k h1 h2
    have hk : k < F.length := by rw [← h.len]; exact h1
    have e1 : out[k] = out.getD k false := by simp [h1]
    have e2 : (reachB F from_ may)[k] = (reachB F from_ may).getD k false := by simp [h2]
    rw [e1, e2, Bool.eq_iff_iff, reachB_get F from_ may k hk]
    exact ⟨h.sound k, compl k⟩
/-- What is left to do. -/
def todo (out : List Bool) (q : List Int) : Nat := 4 * out.countP (fun b => !b) + q.length
theorem todo_mark {out : List Bool} {n : Nat} (hn : n < out.length) (ho : out.getD n false = false) (rest f : List Int) (hf : f.length ≤ 3) : todo (out.set n true) (rest ++ f) < todo out rest + 1 := by
  unfold todo
  have e : out[n] = false := by simpa [hn] using ho
  have : (out.set n true).countP (fun b => !b) + 1 = out.countP (fun b => !b) := by
    rw [List.countP_set hn, e]
    have : 0 < out.countP (fun b => !b) := List.countP_pos_iff.2 ⟨out[n], List.getElem_mem hn, by rw [e]; rfl⟩
    simp; omega
  rw [List.length_append]; omega

end Go.Proofs.Ytemgbakjlbdibaa.G
