import Derived.Test.YtemgbakjlbdibaaGrm
import Derived.Test.YtemgbakjlbdibaaGcl
import Derived.Test.YtemgbakjlbdibaaGgu
namespace Go.Proofs.Ytemgbakjlbdibaa.G
open Go.RowKit Go.Proofs.YtemgbakjlbdibaaW.PrintWords
set_option linter.unusedVariables false
/-- The search over what may be passed, in plain words. -/
def srchM (F : List (List Int)) (M : List Bool) : Nat → List Bool → List Int → List Bool
  | 0, out, _ => out
  | _ + 1, out, [] => out
  | g + 1, out, x :: rest => if x < 0 ∨ out.getD x.toNat false = true ∨ M.getD x.toNat false = false then srchM F M g out rest else srchM F M g (out.set x.toNat true) (rest ++ F.getD x.toNat [])
def seenM (F : List (List Int)) (from_ : List Int) (M : List Bool) : List Bool := srchM F M (4 * F.length + from_.length + 1) (List.replicate F.length false) from_
theorem srchM_eq {F : List (List Int)} {fr : List Int} (M : List Bool) (ok : ReachOk F fr) : ∀ (g : Nat) (out : List Bool) (q : List Int), SInv F fr (fun k => M.getD k false) out q → todo out q < g → srchM F M g out q = reachB F fr (fun k => M.getD k false) := by
  intro g
  induction g with
  | zero => intro out q _ h; omega
  | succ g ih =>
    intro out q HS ht
    cases q with
    | nil => exact HS.stop
    | cons x rest =>
      have hq : ∀ y, y ∈ x :: rest ↔ y = x ∨ y ∈ rest := fun y => by simp
      have hl : todo out (x :: rest) = todo out rest + 1 := by unfold todo; simp; omega
      simp only [srchM]
      split
      · next h => exact ih _ _ (HS.skip hq h) (by omega)
      · next h =>
        rw [not_or, not_or] at h
        have h0 : 0 ≤ x := by omega
        have hx : x < (F.length : Int) := HS.inq x (by simp)
        obtain ⟨n, rfl⟩ := Int.eq_ofNat_of_zero_le h0
        simp only [Int.toNat_natCast] at h ⊢
        have hm := todo_mark (out := out) (n := n) (by rw [HS.len]; omega) (by simpa using h.2.1) rest (F.getD n []) (ok.row n).1
        exact ih _ _ (HS.mark hq (by simpa using h.2.2) (ok.row n).2) (by omega)
theorem seenM_eq {F : List (List Int)} {fr : List Int} (M : List Bool) (ok : ReachOk F fr) : seenM F fr M = reachB F fr (fun k => M.getD k false) :=
  srchM_eq M ok _ _ _ (SInv.start F fr _ ok.fr) (by rw [todo_start]; omega)
theorem seenM_length {F : List (List Int)} {fr : List Int} (M : List Bool) (ok : ReachOk F fr) : (seenM F fr M).length = F.length := by rw [seenM_eq M ok, reachB_length]

end Go.Proofs.Ytemgbakjlbdibaa.G
