import Derived.Test.YtdkembicgbffnaaQBx0
import Derived.Deep.Slices
import Derived.Lib.SmallJoins
import Derived.ProofKit
namespace Go.Proofs.Ytdkembicgbffnaa.QB
open Go.RowKit Go.Joins Go.ChangeShapes Go.WideShapes Go.Proofs.YtdkembicgbffnaaW.PrintWords
set_option linter.unusedVariables false
open Go.Proofs.YtdkembicgbffnaaW.PrintWords in
/-- A slice of ints, opened as the printed contracts want it. -/
theorem open_ints_C {H : Type} {enc : TypeId × Value → H} {P : Program} {W : World} {base : Nat} {spare : Nat → Bool} {held : Bool} {t e : TypeId} {fuel : Nat} {v : Value} {x : DataW H × List MemPlace}
    (ht : P.underlying t = some (.slice e)) (he : P.underlying e = some (.int .i64)) (hc : P.cellsOf e = 1) (h : DataW.trod enc P W base spare held fuel t [v] = some x) :
    ∃ (A : Option Addr) (l : List Int) (c : Nat), v = .slice A l.length c ∧ l.length ≤ c ∧ l.length ≤ 9223372036854775807 ∧ Kd.C (Kd.int .i64) W A l.length l ∧ (∀ n ∈ l, (Lit.int .i64 n).wf = true) := by
  rcases open_ints ht he hc h with ⟨hcs, _⟩ | ⟨a, len, cap, zs, hcs, _, hl, hm, hz, _, hcell, hwz⟩
  · simp only [List.cons.injEq, and_true] at hcs
    exact ⟨none, [], 0, hcs, by simp, by simp, ⟨rfl, by simp, fun h0 => absurd h0 (by simp)⟩, by simp⟩
  · simp only [List.cons.injEq, and_true] at hcs
    have hle : len ≤ zs.length := by rw [hz]; split <;> omega
    have hlen : (zs.take len).length = len := by rw [List.length_take]; omega
    have hmx : cap ≤ 9223372036854775807 := by simpa [maxLen] using hm
    refine ⟨some a, zs.take len, cap, by rw [hcs, hlen], by omega, by omega, ⟨rfl, by omega, fun _ => ⟨a, rfl, fun j p hp => ⟨[.int .i64 p], rfl, rfl, fun i u hu => ?_⟩⟩⟩, fun n hn => hwz n (List.mem_of_mem_take hn)⟩
    have hj : j < (zs.take len).length := (List.getElem?_eq_some_iff.1 hp).1
    obtain rfl : i = 0 := by
      rcases i with _ | i
      · rfl
      · simp at hu
    simp only [List.getElem?_cons_zero, Option.some.injEq] at hu
    subst hu
    have h1 := hcell j (by omega)
    have h2 : zs.getD j 0 = p := by
      rw [List.getElem?_take, if_pos (by omega)] at hp
      simp [List.getD_eq_getElem?_getD, hp]
    rw [h2] at h1
    show W.cell? (a.add (j * 1 + 0)) = _
    simpa using h1
open Go.Proofs.YtdkembicgbffnaaW.PrintWords in
/-- A slice, opened element by element: whoever can open one element's cells has the whole row as a list. -/
theorem open_sl_C {H α : Type} [Inhabited α] {enc : TypeId × Value → H} {P : Program} {W : World} {base : Nat} {spare : Nat → Bool} {held : Bool} {t e : TypeId} {fuel : Nat} {v : Value} {x : DataW H × List MemPlace} (d : Kd α) (good : α → Prop)
    (ht : P.underlying t = some (.slice e)) (hc : P.cellsOf e = d.sz) (h : DataW.trod enc P W base spare held fuel t [v] = some x)
    (one : ∀ (n : Nat) (cs : List Value) (y : DataW H × List MemPlace), DataW.trod enc P W base spare held n e cs = some y → ∃ a, d.K W a cs ∧ good a) :
    ∃ (A : Option Addr) (l : List α) (c : Nat), v = .slice A l.length c ∧ l.length ≤ c ∧ l.length ≤ 9223372036854775807 ∧ Kd.C d W A l.length l ∧ (∀ a ∈ l, good a) := by
  rcases Go.Deep.open_slice ht h with ⟨hcs, _⟩ | ⟨a, len, cap, m, n, D, Pl, hcs, _, hl, hm, hmm, _, hel⟩
  · simp only [List.cons.injEq, and_true] at hcs
    exact ⟨none, [], 0, hcs, by simp, by simp, ⟨rfl, by simp, fun h0 => absurd h0 (by simp)⟩, by simp⟩
  · simp only [List.cons.injEq, and_true] at hcs
    have hle : len ≤ m := by rw [hmm]; split <;> omega
    have hmx : cap ≤ 9223372036854775807 := by simpa [maxLen] using hm
    have each : ∀ i, i < len → ∃ y : α, (∃ cs', W.cells? base (a.add (i * P.cellsOf e)) (P.cellsOf e) = some cs' ∧ d.K W y cs') ∧ good y := fun i hi => by
      obtain ⟨cs', h1, h2⟩ := hel i (by omega)
      obtain ⟨y, hy, hg⟩ := one n cs' _ h2
      exact ⟨y, ⟨cs', h1, hy⟩, hg⟩
    obtain ⟨f, hf⟩ := Go.Deep.choose_lt each
    have hlen : ((List.range len).map f).length = len := by simp
    refine ⟨some a, (List.range len).map f, cap, by rw [hlen]; exact hcs, by omega, by omega, ⟨rfl, by omega, fun _ => ⟨a, rfl, fun j p hp => ?_⟩⟩, fun y hy => ?_⟩
    · have hj : j < len := by have := (List.getElem?_eq_some_iff.1 hp).1; omega
      rw [List.getElem?_map, List.getElem?_range hj] at hp
      simp only [Option.map_some, Option.some.injEq] at hp
      subst hp
      obtain ⟨⟨cs', h1, h2⟩, _⟩ := hf j hj
      obtain ⟨_, hlc, hcell⟩ := World.cells?_some h1
      refine ⟨cs', d.K_len h2, h2, fun i u hu => ?_⟩
      have := hcell i (by rw [← hlc]; exact (List.getElem?_eq_some_iff.1 hu).1)
      rw [Go.Deep.add_add, hc, hu] at this
      exact this
    · obtain ⟨j, hj, rfl⟩ := List.mem_map.1 hy
      exact (hf j (List.mem_range.1 hj)).2
instance : Inhabited S53 := ⟨z53⟩
theorem one_block {H : Type} {enc : TypeId × Value → H} {W : World} {base : Nat} {spare : Nat → Bool} {held : Bool} (n : Nat) (cs : List Value) (y : DataW H × List MemPlace) (h : DataW.trod enc Try.prog W base spare held n 53 cs = some y) :
    ∃ a : S53, k53.K W a cs ∧ a.f3.length ≤ 9223372036854775807 := by
  obtain ⟨y0, y1, y2, y3, m, _, hl, h0, h1, h2, h3⟩ := trod_struct4 Try.underlying53 h
  have e : Try.prog.cellsOf 53 = 4 := by kernel_rfl
  have e3 : Try.prog.cellsOf 3 = 1 := by kernel_rfl
  have e4 : Try.prog.cellsOf 4 = 1 := by kernel_rfl
  have e35 : Try.prog.cellsOf 35 = 1 := by kernel_rfl
  rw [e] at hl
  match cs, hl with
  | [v0, v1, v2, v3], _ =>
    simp only [e3, e4, e35] at h0 h1 h2 h3
    obtain ⟨a0, q0, _, _⟩ := DataW.trod_int Try.underlying3 h0
    obtain ⟨a1, q1, _, _⟩ := DataW.trod_int Try.underlying3 h1
    obtain ⟨a2, q2, _⟩ := DataW.trod_bool Try.underlying4 h2
    obtain ⟨A, l, c, q3, hle, hmx, hr, _⟩ := open_ints_C Try.underlying35 Try.underlying3 e3 h3
    simp at q0 q1 q2
    subst q0 q1 q2
    obtain rfl : v3 = .slice A l.length c := by simpa using q3
    exact ⟨⟨a0, a1, a2, l⟩, k53_mk W ⟨a0, a1, a2, l⟩ hle hr, hmx⟩

end Go.Proofs.Ytdkembicgbffnaa.QB
