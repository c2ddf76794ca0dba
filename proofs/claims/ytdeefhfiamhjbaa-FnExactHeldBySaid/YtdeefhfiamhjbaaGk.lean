import Derived.Test.YtdeefhfiamhjbaaGj
namespace Go.Proofs.Ytdeefhfiamhjbaa.QB.BK
open Go.RowKit Go.Proofs.YtdeefhfiamhjbaaW.PrintWords Go.Proofs.Ytdeefhfiamhjbaa.G
set_option linter.unusedVariables false
/-- One pass over all pairs. -/
def passB (F : List (List Int)) : List S74 → List Bool → Bool → List Bool × Bool
  | [], out, more => (out, more)
  | p :: ps, out, more => if out.getD p.f0.toNat false = true ∧ out.getD p.f1.toNat false = false then passB F ps (orB out (seenB F [p.f1])) true else passB F ps out more
/-- Pass after pass, at most so many. -/
def heldGo (F : List (List Int)) (l : List S74) : Nat → List Bool → Nat → List Bool × Nat
  | 0, out, n => (out, n)
  | g + 1, out, n => if (passB F l out false).2 = true then heldGo F l g (passB F l out false).1 (n + 1) else ((passB F l out false).1, n)
/-- What is held, and the number of passes. -/
def heldB (F : List (List Int)) (R : List Int) (l : List S74) : List Bool × Nat := heldGo F l (F.length + 1) (seenB F R) 0
theorem orB_length (a b : List Bool) (h : a.length = b.length) : (orB a b).length = a.length := by unfold orB; simp [h]
def unm (out : List Bool) : Nat := out.countP (fun b => !b)
theorem unm_or (a : List Bool) : ∀ (b : List Bool), a.length = b.length → unm (orB a b) ≤ unm a := by
  unfold unm orB
  induction a with
  | nil => intro b _; simp
  | cons x a ih =>
    intro b h
    cases b with
    | nil => simp at h
    | cons y b =>
      have := ih b (by simpa using h)
      simp only [List.zipWith_cons_cons, List.countP_cons]
      cases x <;> cases y <;> simp <;> omega
theorem unm_or_lt (a : List Bool) : ∀ (b : List Bool) (k : Nat), a.length = b.length → a.getD k false = false → b.getD k false = true → unm (orB a b) < unm a := by
  unfold unm orB
  induction a with
  | nil =>
    intro b k h _ hb
    cases b with
    | nil => simp at hb
    | cons y b => simp at h
  | cons x a ih =>
    intro b k h ha hb
    cases b with
    | nil => simp at h
    | cons y b =>
      have hab : a.length = b.length := by simpa using h
      simp only [List.zipWith_cons_cons, List.countP_cons]
      cases k with
      | zero =>
        simp at ha hb
        subst ha hb
        have := unm_or a b hab
        unfold unm orB at this
        simp; omega
      | succ k =>
        have := ih b k hab (by simpa using ha) (by simpa using hb)
        cases x <;> cases y <;> simp <;> omega
/-- What the pairs owe. -/
def PairsIn (n : Nat) (l : List S74) : Prop := ∀ p ∈ l, 0 ≤ p.f0 ∧ p.f0 < (n : Int) ∧ 0 ≤ p.f1 ∧ p.f1 < (n : Int)
theorem ok_one {F : List (List Int)} {R : List Int} (ok : ReachOk F R) {x : Int} (h : x < (F.length : Int)) : ReachOk F [x] := ⟨ok.n, fun y hy => by simp at hy; omega, ok.rows⟩
theorem pass_len {F : List (List Int)} {R : List Int} (ok : ReachOk F R) : ∀ (l : List S74) (out : List Bool) (more : Bool), PairsIn F.length l → out.length = F.length → (passB F l out more).1.length = F.length := by
  intro l
  induction l with
  | nil => intro out more _ h; exact h
  | cons p ps ih =>
    intro out more hp h
    have hps : PairsIn F.length ps := fun q hq => hp q (List.mem_cons_of_mem _ hq)
    simp only [passB]
    split
    · refine ih _ _ hps ?_
      rw [orB_length _ _ (by rw [seenB_length (ok_one ok (hp p (by simp)).2.2.2), h]), h]
    · exact ih _ _ hps h
theorem pass_unm {F : List (List Int)} {R : List Int} (ok : ReachOk F R) : ∀ (l : List S74) (out : List Bool) (more : Bool), PairsIn F.length l → out.length = F.length → unm (passB F l out more).1 ≤ unm out ∧ (more = false → (passB F l out more).2 = true → unm (passB F l out more).1 < unm out) := by
  intro l
  induction l with
  | nil => intro out more _ h; exact ⟨Nat.le_refl _, fun h1 h2 => by simp [passB, h1] at h2⟩
  | cons p ps ih =>
    intro out more hp h
    have hps : PairsIn F.length ps := fun q hq => hp q (List.mem_cons_of_mem _ hq)
    have h1 := ok_one ok (hp p (by simp)).2.2.2
    have hl : out.length = (seenB F [p.f1]).length := by rw [seenB_length h1, h]
    simp only [passB]
    split
    · next hc =>
      have h2 := (ih (orB out (seenB F [p.f1])) true hps (by rw [orB_length _ _ hl, h])).1
      have h3 := unm_or_lt out (seenB F [p.f1]) p.f1.toNat hl hc.2 (seenB_self h1 _ (by rw [Int.toNat_of_nonneg (hp p (by simp)).2.2.1]; simp))
      exact ⟨by omega, fun _ _ => by omega⟩
    · exact ih _ _ hps h
theorem unm_le (out : List Bool) : unm out ≤ out.length := List.countP_le_length
/-- A row that is taken together with another up to a place. -/
def orTo (a b : List Bool) (k : Nat) : List Bool := (orB a b).take k ++ a.drop k
theorem orTo_zero (a b : List Bool) : orTo a b 0 = a := by unfold orTo; simp
theorem orTo_all (a b : List Bool) (h : a.length = b.length) : orTo a b a.length = orB a b := by
  unfold orTo
  rw [List.drop_length, List.append_nil, List.take_of_length_le (by rw [orB_length _ _ h]; exact Nat.le_refl _)]
theorem orTo_len (a b : List Bool) (k : Nat) (h : a.length = b.length) (hk : k ≤ a.length) : (orTo a b k).length = a.length := by
  unfold orTo; rw [List.length_append, List.length_take, List.length_drop, orB_length _ _ h]; omega
theorem orTo_get (a b : List Bool) (k : Nat) (h : a.length = b.length) (hk : k < a.length) : (orTo a b k).getD k false = a.getD k false := by
  unfold orTo
  have hl : ((orB a b).take k).length = k := by rw [List.length_take, orB_length _ _ h]; omega
  rw [List.getD_eq_getElem?_getD, List.getElem?_append_right (by omega), hl, Nat.sub_self, List.getElem?_drop, List.getD_eq_getElem?_getD]
  rfl
theorem orTo_step (a b : List Bool) (k : Nat) (h : a.length = b.length) (hk : k < a.length) : (orTo a b k).set k (a.getD k false || b.getD k false) = orTo a b (k + 1) := by
  have hl : ((orB a b).take k).length = k := by rw [List.length_take, orB_length _ _ h]; omega
  have hk2 : k < (orB a b).length := by rw [orB_length _ _ h]; exact hk
  unfold orTo
  rw [List.set_append_right _ _ (by omega), hl, Nat.sub_self, List.take_succ_eq_append_getElem hk2, List.append_assoc]
  congr 1
  rw [List.drop_eq_getElem_cons hk, List.set_cons_zero, List.singleton_append]
  congr 1
  have := orB_get a b h k
  rw [show (orB a b)[k] = (orB a b).getD k false by simp [hk2], this]

end Go.Proofs.Ytdeefhfiamhjbaa.QB.BK
