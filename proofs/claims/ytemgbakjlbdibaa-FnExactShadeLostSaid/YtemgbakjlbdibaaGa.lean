import Derived.Test.YtemgbakjlbdibaaProg
import Derived.WalkKit
import Derived.WalkSpells
import Derived.WalkLawsBesides
import Derived.Outline
import Derived.Lib.Hide
import Derived.Deep.QuietTactic
import Derived.BigQuiet
import Derived.Deep.LoopGhost
import Derived.Shelf.Abstract
import Derived.Test.YtemgbakjlbdibaaWWords
import Derived.Test.YtemgbakjlbdibaaWLast
import Derived.Test.YtemgbakjlbdibaaWMore
import Derived.Test.YtemgbakjlbdibaaWApart
namespace Go.Proofs.Ytemgbakjlbdibaa.G
open Go.RowKit Go.Proofs.YtemgbakjlbdibaaW.PrintWords
set_option linter.unusedVariables false

/-- The index of the first element that p takes, or -1. -/
def idxOf {α : Type} (p : α → Bool) (xs : List α) : Int := match xs.findIdx? p with | some i => (i : Int) | none => -1

theorem idxOf_hit {α : Type} (p : α → Bool) (xs : List α) (k : Nat) (hk : k < xs.length) (h : p xs[k] = true) (hb : ∀ j (hj : j < k), p (xs[j]'(by omega)) = false) : idxOf p xs = k := by
  unfold idxOf
  have : xs.findIdx? p = some k := by rw [List.findIdx?_eq_some_iff_getElem]; exact ⟨hk, h, fun j hj => by simp [hb j hj]⟩
  rw [this]
theorem idxOf_miss {α : Type} (p : α → Bool) (xs : List α) (h : ∀ j (hj : j < xs.length), p xs[j] = false) : idxOf p xs = -1 := by
  unfold idxOf
  have : xs.findIdx? p = none := by
    rw [List.findIdx?_eq_none_iff]; intro x hx; obtain ⟨j, hj, rfl⟩ := List.getElem_of_mem hx; exact h j hj
  rw [this]
theorem idxOf_any {α : Type} (p : α → Bool) (xs : List α) : decide (idxOf p xs ≥ 0) = xs.any p := by
  unfold idxOf
  cases h : xs.findIdx? p with
  | none =>
    rw [List.findIdx?_eq_none_iff] at h
    have : xs.any p = false := by rw [List.any_eq_false]; intro x hx; simp [h x hx]
    rw [this]; rfl
  | some i =>
    rw [List.findIdx?_eq_some_iff_getElem] at h
    obtain ⟨hi, hp, _⟩ := h
    have : xs.any p = true := List.any_eq_true.2 ⟨xs[i], List.getElem_mem hi, hp⟩
    rw [this]; simp
theorem cell_alloc {w : World} {p : Addr} {v : Value} (h : w.cell? p = some v) (o : Obj) : (w.alloc o).cell? p = some v := (Below.cell ((Below.refl w.heap.size w).alloc (Nat.le_refl _) o) (World.block_lt_of_cell? w _ h)).trans h
theorem cell_bl {w W : World} {p : Addr} {v : Value} (hb : Below w.heap.size w W) (h : w.cell? p = some v) : W.cell? p = some v := (hb.cell (World.block_lt_of_cell? w _ h)).trans h
theorem bl_alloc {w W : World} (h : Below w.heap.size w W) (o : Obj) : Below w.heap.size w (W.alloc o) := h.alloc h.size o
theorem bl_drewN {w W : World} (h : Below w.heap.size w W) (n : Nat) : Below w.heap.size w (W.drewN n) := ⟨h.os, h.tape, h.output, h.size, h.block⟩
theorem bl_drew {w W : World} (h : Below w.heap.size w W) : Below w.heap.size w W.drew := ⟨h.os, h.tape, h.output, h.size, h.block⟩
theorem bl_trans {a b c : World} (h : Below a.heap.size a b) (k : Below b.heap.size b c) : Below a.heap.size a c := h.trans (k.mono h.size)
/-- A block of cells as it stands. -/
structure Blk (W : World) (b : Nat) (cs : Array Value) (t : TypeId) : Prop where
  out : W.heap[b]? = some (.cells cs t (0, 0))
theorem Blk.lt {W : World} {b : Nat} {cs : Array Value} {t : TypeId} (h : Blk W b cs t) : b < W.heap.size := (Array.getElem?_eq_some_iff.1 h.out).1
theorem Blk.bl {W W' : World} {b : Nat} {cs : Array Value} {t : TypeId} (h : Blk W b cs t) (hb : Below W.heap.size W W') : Blk W' b cs t := ⟨(hb.block b h.lt).trans h.out⟩
theorem Blk.cell {W : World} {b : Nat} {cs : Array Value} {t : TypeId} (h : Blk W b cs t) (i : Nat) {v : Value} (hv : cs[i]? = some v) : W.cell? ⟨b, i, none⟩ = some v := by
  simp [World.cell?, h.out, hv]
theorem Blk.frozen {W : World} {b : Nat} {cs : Array Value} {t : TypeId} (h : Blk W b cs t) (i : Nat) : W.frozen? ⟨b, i, none⟩ = false := by
  simp [World.frozen?, h.out]
theorem Blk.new (w : World) (cs : Array Value) (t : TypeId) : Blk (w.alloc (.cells cs t)) w.heap.size cs t := ⟨heap_alloc_new w _⟩
/-- A row of a slice of slices. -/
theorem at_rows {α : Type} {d : Kd α} {e : Nat} {w : World} {A : Option Addr} {xs : List (List α)} (h : Kd.C (Kd.slice e d) w A xs.length xs) (k : Nat) (hk : k < xs.length) :
    ∃ ad Ak ck, A = some ad ∧ w.cell? (ad.add k) = some (.slice Ak (xs[k]).length ck) ∧ (xs[k]).length ≤ ck ∧ Kd.C d w Ak (xs[k]).length xs[k] := by
  obtain ⟨ad, e, hc⟩ := h.2.2 (by omega)
  obtain ⟨c, hl, ⟨Ak, ck, rfl, hle, hr⟩, hcell⟩ := hc k xs[k] (List.getElem?_eq_getElem hk)
  refine ⟨ad, Ak, ck, e, ?_, hle, hr⟩
  have := hcell 0 _ rfl
  simpa [Kd.slice] using this
/-- slices.IndexFunc over ints, for whatever predicate: what the closure owes is a premise. -/
theorem IndexFunc_ints (g : Nat) (lb : Array Value) (p : Int → Bool) (A : Option Addr) (c : Nat) (xs : List Int) (w : World)
    (eg : ∀ args w, (callFunc g args).run Try.prog w = .ok (.enter g args) w)
    (hx : Kd.C (Kd.int .i64) w A xs.length xs)
    (hp : ∀ (W : World) (x : Int), Below w.heap.size w W → x ∈ xs → Calls Try.prog g (#[.int .i64 x] ++ lb) W fun e w' => e = .returned (.bool (p x)) ∧ Below w.heap.size w w') :
    Calls Try.prog 97 #[.slice A xs.length c, .func (.func g) #[] lb] w fun e w' => e = .returned (.int .i64 (idxOf p xs)) ∧ Below w.heap.size w w' := by
  have hl : xs.length ≤ 9223372036854775807 := hx.2.1
  have HX := Lib.hid hx
  have HP := Lib.hid hp
  clear hx hp
  generalize hn : xs.length = n at hl
  have HN := Lib.hid hn
  clear hn
  go_enter Try.func97, Try.ntmps97
  go_wp2
  go_loopg [5, 8] n (fun gg _ i wr => ∃ kk : Nat, kk ≤ n ∧ n - kk ≤ gg ∧ i = .int .i64 kk ∧ Hid (Below w.heap.size w wr) ∧ Hid (∀ j (hj : j < xs.length), j < kk → p xs[j] = false))
  case atStart => exact ⟨0, Nat.zero_le _, by omega, rfl, Below.refl _ w, fun j _ hj => absurd hj (Nat.not_lt_zero _)⟩
  case round =>
    obtain ⟨kk, hkk, hg, rfl, HB, HA⟩ := hrel
    by_cases hlt : kk < n
    · have hltz : (kk : Int) < (n : Int) := by omega
      have hkx : kk < xs.length := by rw [HN.out]; exact hlt
      obtain ⟨ad, rfl, hc⟩ := Kd.at_int HX.out (kk : Int) (by omega) (by omega)
      rw [Int.toNat_natCast] at hc
      replace hc := (HB.out.cell (World.block_lt_of_cell? w _ hc)).trans hc
      have hv : rd xs (kk : Int) = xs[kk] := by unfold rd; simp [hkx]
      rw [hv] at hc
      have hcall := HP.out wr xs[kk] HB.out (List.getElem_mem hkx)
      generalize hy : xs[kk] = y at hc hcall
      have HY := Lib.hid hy
      clear hy hv
      cases hq : p y with
      | true =>
        rw [hq] at hcall
        have HC := Lib.hid hcall
        clear hcall
        go_wp2_with (go_at_fn g; refine HC.out.mono ?_; rintro e w' ⟨rfl, hb'⟩)
        go_ret
        refine ⟨?_, hb'⟩
        rw [idxOf_hit p xs kk hkx (by rw [HY.out]; exact hq) (fun j hj => HA.out j _ hj)]
        rfl
      | false =>
        rw [hq] at hcall
        have HC := Lib.hid hcall
        clear hcall
        go_wp2_with (go_at_fn g; refine HC.out.mono ?_; rintro e w' ⟨rfl, hb'⟩)
        go_roundg (n - (kk + 1))
        case measure => omega
        case rel =>
          refine ⟨kk + 1, by omega, by omega, by go_num, hb', (show Hid _ from fun j hjx hj => ?_)⟩
          by_cases e : j = kk
          · subst e
            rw [HY.out]; exact hq
          · exact HA.out j hjx (by omega)
    · have hltz : ¬ (kk : Int) < (n : Int) := by omega
      have : kk = n := by omega
      subst this
      go_wp2
      go_ret
      refine ⟨?_, HB.out⟩
      rw [idxOf_miss p xs (fun j hj => HA.out j hj (by rw [HN.out] at hj; exact hj))]
      rfl

/-- slices.ContainsFunc over ints. -/
theorem ContainsFunc_ints (g : Nat) (lb : Array Value) (p : Int → Bool) (A : Option Addr) (c : Nat) (xs : List Int) (w : World)
    (eg : ∀ args w, (callFunc g args).run Try.prog w = .ok (.enter g args) w)
    (hx : Kd.C (Kd.int .i64) w A xs.length xs)
    (hp : ∀ (W : World) (x : Int), Below w.heap.size w W → x ∈ xs → Calls Try.prog g (#[.int .i64 x] ++ lb) W fun e w' => e = .returned (.bool (p x)) ∧ Below w.heap.size w w') :
    Calls Try.prog 64 #[.slice A xs.length c, .func (.func g) #[] lb] w fun e w' => e = .returned (.bool (xs.any p)) ∧ Below w.heap.size w w' := by
  have HC := Lib.hid (IndexFunc_ints g lb p A c xs w eg hx hp)
  clear hx hp
  have HI := Lib.hid (idxOf_any p xs)
  generalize idxOf p xs = i at HC HI
  go_enter Try.func64, Try.ntmps64
  go_wp2_with (go_at_call 97; refine HC.out.mono ?_; rintro e w' ⟨rfl, hb'⟩)
  go_ret
  refine ⟨?_, hb'⟩
  rw [← HI.out]
  rfl
/-- A heap by value, as it is read. -/
structure HeapAt (w : World) (A0 A1 A2 : Option Addr) (c0 c1 c2 : Nat) (F : List (List Int)) (L : List Bool) (R : List Int) : Prop where
  rF : Kd.C (Kd.slice 3 (Kd.int .i64)) w A0 F.length F
  cF : F.length ≤ c0
  rL : Kd.C Kd.bool w A1 L.length L
  cL : L.length ≤ c1
  rR : Kd.C (Kd.int .i64) w A2 R.length R
  cR : R.length ≤ c2
theorem HeapAt.below {w w1 : World} {A0 A1 A2 : Option Addr} {c0 c1 c2 : Nat} {F : List (List Int)} {L : List Bool} {R : List Int} (h : HeapAt w A0 A1 A2 c0 c1 c2 F L R) (hb : Below w.heap.size w w1) : HeapAt w1 A0 A1 A2 c0 c1 c2 F L R :=
  ⟨Kd.C_below h.rF hb, h.cF, Kd.C_below h.rL hb, h.cL, Kd.C_below h.rR hb, h.cR⟩
/-- Is a number a reference? -/
def isRefB (L : List Bool) (k : Int) : Bool := k == -1 || (decide (0 ≤ k) && L.getD k.toNat false)
/-- Is a heap valid, with at most so many objects? -/
def goodHeapB (F : List (List Int)) (L : List Bool) (R : List Int) (most : Int) : Bool :=
  decide ((F.length : Int) ≤ most) && decide (L.length = F.length) && decide (R.length ≤ 4) &&
  (List.range F.length).all (fun k => decide ((F.getD k []).length ≤ 3) && (L.getD k false || (F.getD k []).isEmpty) && (F.getD k []).all (isRefB L)) && R.all (isRefB L)
theorem within_calls (n lo hi : Int) (w : World) : Calls Try.prog 56 #[.int .i64 n, .int .i64 lo, .int .i64 hi] w fun e w' => e = .returned (.bool (decide (lo ≤ n ∧ n ≤ hi))) ∧ ∃ q, w' = w.drewN q := by
  by_cases h1 : lo ≤ n
  · have e : decide (lo ≤ n ∧ n ≤ hi) = decide (n ≤ hi) := by simp [h1]
    rw [e]
    clear e
    have h1b : decide (lo ≤ n) = true := decide_eq_true h1
    clear h1
    go_enter Try.func56, Try.ntmps56
    go_wp2
    go_ret
    exact ⟨rfl, 0, rfl⟩
  · have e : decide (lo ≤ n ∧ n ≤ hi) = false := by simp [h1]
    rw [e]
    clear e
    have h1b : decide (lo ≤ n) = false := decide_eq_false h1
    clear h1
    go_enter Try.func56, Try.ntmps56
    go_wp2
    go_ret
    exact ⟨rfl, 0, rfl⟩

end Go.Proofs.Ytemgbakjlbdibaa.G
