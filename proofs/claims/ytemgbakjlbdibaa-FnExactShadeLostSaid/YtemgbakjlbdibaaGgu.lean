import Derived.Test.YtemgbakjlbdibaaGh
namespace Go.Proofs.Ytemgbakjlbdibaa.G
open Go.RowKit Go.Proofs.YtemgbakjlbdibaaW.PrintWords
set_option linter.unusedVariables false
/-- The reference's search from the greys: one field, one object. -/
def gStep (W : Nat → Bool) (s : List Bool × List Int) (x : Int) : List Bool × List Int :=
  if 0 ≤ x ∧ W x.toNat = true ∧ s.1.getD x.toNat false = false then (s.1.set x.toNat true, s.2 ++ [x]) else s
/-- What the whites are that are guarded: from the fields of the greys, over whites. -/
def greyFrom (F : List (List Int)) (grey : Nat → Bool) : List Int := ((List.range F.length).filter grey).flatMap fun k => F.getD k []
theorem mem_greyFrom {F : List (List Int)} {grey : Nat → Bool} {x : Int} : x ∈ greyFrom F grey ↔ ∃ k, k < F.length ∧ grey k = true ∧ x ∈ F.getD k [] := by
  unfold greyFrom
  simp only [List.mem_flatMap, List.mem_filter, List.mem_range]
  constructor
  · rintro ⟨k, ⟨h1, h2⟩, h3⟩; exact ⟨k, h1, h2, h3⟩
  · rintro ⟨k, h1, h2, h3⟩; exact ⟨k, ⟨h1, h2⟩, h3⟩
structure GInv (F : List (List Int)) (grey W : Nat → Bool) (done : Nat → Prop) (out : List Bool) (q : List Int) : Prop where
  len : out.length = F.length
  inq : ∀ y ∈ q, 0 ≤ y ∧ y < (F.length : Int) ∧ (grey y.toNat = true ∨ out.getD y.toNat false = true)
  sound : ∀ k, out.getD k false = true → Reaches F (greyFrom F grey) W k
  closed : ∀ k : Nat, k < F.length → (grey k = true ∨ out.getD k false = true) → (k : Int) ∈ q ∨ done k ∨ ∀ x ∈ F.getD k [], 0 ≤ x → W x.toNat = true → out.getD x.toNat false = true
theorem gStep_mono (W : Nat → Bool) (s : List Bool × List Int) (x : Int) (k : Nat) (h : s.1.getD k false = true) : (gStep W s x).1.getD k false = true := by
  unfold gStep
  split
  · next hc =>
    by_cases hx : x.toNat < s.1.length
    · simp only; rw [getD_set hx]; split
      · rfl
      · exact h
    · simp only; rw [List.set_eq_of_length_le (by omega)]; exact h
  · exact h
theorem gStep_len (W : Nat → Bool) (s : List Bool × List Int) (x : Int) : (gStep W s x).1.length = s.1.length := by unfold gStep; split <;> simp
theorem gFold_mono (W : Nat → Bool) (row : List Int) : ∀ (s : List Bool × List Int) (k : Nat), s.1.getD k false = true → (row.foldl (gStep W) s).1.getD k false = true := by
  induction row with
  | nil => intro s k h; exact h
  | cons x row ih => intro s k h; exact ih _ k (gStep_mono W s x k h)
/-- One field of object k. -/
theorem GInv.step {F : List (List Int)} {grey W : Nat → Bool} {k : Nat} {out : List Bool} {q : List Int} {x : Int} (h : GInv F grey W (· = k) out q) (hk : k < F.length) (hg : grey k = true ∨ out.getD k false = true) (hx : x ∈ F.getD k []) (hxl : x < (F.length : Int)) :
    GInv F grey W (· = k) (gStep W (out, q) x).1 (gStep W (out, q) x).2 ∧ (0 ≤ x → W x.toNat = true → (gStep W (out, q) x).1.getD x.toNat false = true) := by
  unfold gStep
  split
  · next hc =>
    obtain ⟨h0, hw, ho⟩ := hc
    simp only at ho ⊢
    obtain ⟨n, rfl⟩ := Int.eq_ofNat_of_zero_le h0
    simp only [Int.toNat_natCast] at *
    have hn : n < out.length := by rw [h.len]; omega
    have hr : Reaches F (greyFrom F grey) W n := by
      rcases hg with hg | hg
      · exact .root n (mem_greyFrom.2 ⟨k, hk, hg, hx⟩) hw
      · exact .field k n (h.sound k hg) hx hw
    refine ⟨⟨by rw [List.length_set]; exact h.len, fun y hy => ?_, fun j hj => ?_, fun j hj hgj => ?_⟩, fun _ _ => by rw [getD_set hn, if_pos rfl]⟩
    · rcases List.mem_append.1 hy with hy | hy
      · obtain ⟨a, b, c⟩ := h.inq y hy
        refine ⟨a, b, c.imp id fun c => ?_⟩
        rw [getD_set hn]; split
        · rfl
        · exact c
      · simp at hy; subst hy
        exact ⟨h0, hxl, .inr (by rw [Int.toNat_natCast, getD_set hn, if_pos rfl])⟩
    · rw [getD_set hn] at hj
      split at hj
      · next e => subst e; exact hr
      · exact h.sound j hj
    · have up : ∀ m, out.getD m false = true → (out.set n true).getD m false = true := fun m hm => by
        rw [getD_set hn]
        split
        · rfl
        · exact hm
      by_cases e : j = n
      · subst e; exact .inl (List.mem_append_right _ (by simp))
      · rcases hgj with hgj | hgj
        · rcases h.closed j hj (.inl hgj) with h1 | h1 | h1
          · exact .inl (List.mem_append_left _ h1)
          · exact .inr (.inl h1)
          · exact .inr (.inr fun y hy h0 hw => up _ (h1 y hy h0 hw))
        · rw [getD_set hn, if_neg e] at hgj
          rcases h.closed j hj (.inr hgj) with h1 | h1 | h1
          · exact .inl (List.mem_append_left _ h1)
          · exact .inr (.inl h1)
          · exact .inr (.inr fun y hy h0 hw => up _ (h1 y hy h0 hw))
  · next hc =>
    refine ⟨h, fun h0 hw => ?_⟩
    cases ho : out.getD x.toNat false with
    | true => rfl
    | false => exact absurd ⟨h0, hw, ho⟩ hc
theorem GInv.fold {F : List (List Int)} {grey W : Nat → Bool} {k : Nat} (hk : k < F.length) (row : List Int) : ∀ {out : List Bool} {q : List Int}, GInv F grey W (· = k) out q → (grey k = true ∨ out.getD k false = true) → (∀ x ∈ row, x ∈ F.getD k [] ∧ x < (F.length : Int)) →
    GInv F grey W (· = k) (row.foldl (gStep W) (out, q)).1 (row.foldl (gStep W) (out, q)).2 ∧ ∀ x ∈ row, 0 ≤ x → W x.toNat = true → (row.foldl (gStep W) (out, q)).1.getD x.toNat false = true := by
  induction row with
  | nil => intro out q h _ _; exact ⟨h, fun x hx => by cases hx⟩
  | cons y row ih =>
    intro out q h hg hrow
    obtain ⟨h1, h2⟩ := h.step hk hg (hrow y (by simp)).1 (hrow y (by simp)).2
    have hg2 : grey k = true ∨ (gStep W (out, q) y).1.getD k false = true := hg.imp id fun c => gStep_mono W _ _ _ c
    obtain ⟨h3, h4⟩ := ih (out := (gStep W (out, q) y).1) (q := (gStep W (out, q) y).2) h1 hg2 (fun x hx => hrow x (List.mem_cons_of_mem _ hx))
    refine ⟨h3, fun x hx h0 hw => ?_⟩
    rcases List.mem_cons.1 hx with rfl | hx
    · exact gFold_mono W row _ _ (h2 h0 hw)
    · exact h4 x hx h0 hw
/-- One object taken from the queue. -/
theorem GInv.pop {F : List (List Int)} {grey W : Nat → Bool} {out : List Bool} {y : Int} {rest : List Int} (rows : ∀ f ∈ F, ∀ x ∈ f, x < (F.length : Int)) (h : GInv F grey W (fun _ => False) out (y :: rest)) :
    GInv F grey W (fun _ => False) ((F.getD y.toNat []).foldl (gStep W) (out, rest)).1 ((F.getD y.toNat []).foldl (gStep W) (out, rest)).2 := by
  obtain ⟨y0, y1, yg⟩ := h.inq y (by simp)
  obtain ⟨k, rfl⟩ := Int.eq_ofNat_of_zero_le y0
  simp only [Int.toNat_natCast] at *
  have hk : k < F.length := by omega
  have hrow : F.getD k [] = F[k] := by simp [hk]
  have h0 : GInv F grey W (· = k) out rest := ⟨h.len, fun z hz => h.inq z (List.mem_cons_of_mem _ hz), h.sound, fun j hj hg => by
    rcases h.closed j hj hg with h1 | h1 | h1
    · rcases List.mem_cons.1 h1 with h1 | h1
      · exact .inr (.inl (by omega))
      · exact .inl h1
    · exact h1.elim
    · exact .inr (.inr h1)⟩
  obtain ⟨h1, h2⟩ := h0.fold hk (F.getD k []) yg (fun x hx => ⟨hx, rows F[k] (List.getElem_mem hk) x (by rw [← hrow]; exact hx)⟩)
  refine ⟨h1.len, h1.inq, h1.sound, fun j hj hg => ?_⟩
  rcases h1.closed j hj hg with h3 | h3 | h3
  · exact .inl h3
  · subst h3; exact .inr (.inr h2)
  · exact .inr (.inr h3)
theorem GInv.stop {F : List (List Int)} {grey W : Nat → Bool} {out : List Bool} (rows : ∀ f ∈ F, ∀ x ∈ f, x < (F.length : Int)) (h : GInv F grey W (fun _ => False) out []) : out = reachB F (greyFrom F grey) W := by
  have cl : ∀ k : Nat, k < F.length → (grey k = true ∨ out.getD k false = true) → ∀ x ∈ F.getD k [], 0 ≤ x → W x.toNat = true → out.getD x.toNat false = true := fun k hk hg => by
    rcases h.closed k hk hg with h1 | h1 | h1
    · cases h1
    · exact h1.elim
    · exact h1
  have lt : ∀ k, Reaches F (greyFrom F grey) W k → k < F.length := by
    intro k hk
    have aux : ∀ j, (k : Int) ∈ F.getD j [] → k < F.length := fun j hj => by
      by_cases hjl : j < F.length
      · have : F.getD j [] = F[j] := by simp [hjl]
        rw [this] at hj
        have := rows F[j] (List.getElem_mem hjl) k hj
        omega
      · rw [List.getD_eq_getElem?_getD, List.getElem?_eq_none (by omega)] at hj; cases hj
    cases hk with
    | root k h1 _ => obtain ⟨j, _, _, hj⟩ := mem_greyFrom.1 h1; exact aux j hj
    | field i k _ h1 _ => exact aux i h1
  have compl : ∀ k, Reaches F (greyFrom F grey) W k → out.getD k false = true := by
    intro k hk
    induction hk with
    | root k h1 hm =>
      obtain ⟨j, hj, hg, hx⟩ := mem_greyFrom.1 h1
      exact cl j hj (.inl hg) (k : Int) hx (by omega) hm
    | field i k hi h1 hm ih => exact cl i (lt i hi) (.inr ih) (k : Int) h1 (by omega) hm
  apply List.ext_getElem
  · rw [h.len, reachB_length]
  · intro k h1 h2
    have hk : k < F.length := by rw [← h.len]; exact h1
    have e1 : out[k] = out.getD k false := by simp [h1]
    have e2 : (reachB F (greyFrom F grey) W)[k] = (reachB F (greyFrom F grey) W).getD k false := by simp [h2]
    rw [e1, e2, Bool.eq_iff_iff, reachB_get F _ _ k hk]
    exact ⟨h.sound k, compl k⟩

end Go.Proofs.Ytemgbakjlbdibaa.G
