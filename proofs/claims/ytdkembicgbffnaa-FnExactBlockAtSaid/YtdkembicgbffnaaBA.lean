import Derived.Test.YtdkembicgbffnaaGa
import Derived.Test.YtdkembicgbffnaaQBx0
namespace Go.Proofs.Ytdkembicgbffnaa.QB.BK
open Go.RowKit Go.Proofs.YtdkembicgbffnaaW.PrintWords Go.Proofs.Ytdkembicgbffnaa.G
set_option linter.unusedVariables false
theorem l1In_calls (n lo hi : Int) (w : World) : Calls Try.prog 41 #[.int .i64 n, .int .i64 lo, .int .i64 hi] w fun e w' => e = .returned (.bool (decide (lo ≤ n ∧ n ≤ hi))) ∧ ∃ q, w' = w.drewN q := by
  by_cases h1 : lo ≤ n
  · have e : decide (lo ≤ n ∧ n ≤ hi) = decide (n ≤ hi) := by simp [h1]
    rw [e]
    clear e
    have h1b : decide (lo ≤ n) = true := decide_eq_true h1
    clear h1
    go_enter Try.func41, Try.ntmps41
    go_wp2
    go_ret
    exact ⟨rfl, 0, rfl⟩
  · have e : decide (lo ≤ n ∧ n ≤ hi) = false := by simp [h1]
    rw [e]
    clear e
    have h1b : decide (lo ≤ n) = false := decide_eq_false h1
    clear h1
    go_enter Try.func41, Try.ntmps41
    go_wp2
    go_ret
    exact ⟨rfl, 0, rfl⟩

/-- An element's cells, in a later world. -/
theorem at_block {w wr : World} {A : Option Addr} {l : List S49} (h : Kd.C k49 w A l.length l) (hb : Below w.heap.size w wr) (k : Nat) (hk : k < l.length) :
    ∃ ad A3 c3, A = some ad ∧ wr.cell? (ad.add (k * 4)) = some (.int .i64 (l.getD k z49).f0) ∧ wr.cell? ⟨(ad.add (k * 4)).block, (ad.add (k * 4)).off + 1, none⟩ = some (.int .i64 (l.getD k z49).f1) ∧
      wr.cell? ⟨(ad.add (k * 4)).block, (ad.add (k * 4)).off + 2, none⟩ = some (.bool (l.getD k z49).f2) ∧ wr.cell? ⟨(ad.add (k * 4)).block, (ad.add (k * 4)).off + 3, none⟩ = some (.slice A3 (l.getD k z49).f3.length c3) ∧
      (l.getD k z49).f3.length ≤ c3 ∧ (Kd.int .i64).C wr A3 (l.getD k z49).f3.length (l.getD k z49).f3 := by
  obtain ⟨ad, A3, c3, e, h0, h1, h2, h3, h4, h5⟩ := at_T49 h (k : Int) (by omega) (by omega)
  simp only [Int.toNat_natCast, rd_T49] at h0 h1 h2 h3 h4 h5
  exact ⟨ad, A3, c3, e, cell_bl hb h0, cell_bl hb h1, cell_bl hb h2, cell_bl hb h3, h4, Kd.C_below h5 hb⟩

def blkV (x : S49) (A3 : Option Addr) (c3 : Nat) : Value := .agg #[.int .i64 x.f0, .int .i64 x.f1, .bool x.f2, .slice A3 x.f3.length c3]

set_option maxHeartbeats 400000 in
theorem IndexFunc_blocks (g : Nat) (lb : Array Value) (p : S49 → Bool) (A : Option Addr) (c : Nat) (xs : List S49) (w : World)
    (eg : ∀ args w, (callFunc g args).run Try.prog w = .ok (.enter g args) w)
    (hx : Kd.C k49 w A xs.length xs)
    (hp : ∀ (W : World) (x : S49) (A3 : Option Addr) (c3 : Nat), Below w.heap.size w W → Calls Try.prog g (#[.agg #[.int .i64 x.f0, .int .i64 x.f1, .bool x.f2, .slice A3 x.f3.length c3]] ++ lb) W fun e w' => e = .returned (.bool (p x)) ∧ Below w.heap.size w w') :
    Calls Try.prog 57 #[.slice A xs.length c, .func (.func g) #[] lb] w fun e w' => e = .returned (.int .i64 (idxOf p xs)) ∧ Below w.heap.size w w' := by
  have hl : xs.length ≤ 9223372036854775807 := hx.2.1
  have HX := Lib.hid hx
  have HP := Lib.hid hp
  clear hx hp
  generalize hn : xs.length = n at hl
  have HN := Lib.hid hn
  clear hn
  go_enter Try.func57, Try.ntmps57
  go_wp2
  go_loopg [5, 8] n (fun gg _ i wr => ∃ kk : Nat, kk ≤ n ∧ n - kk ≤ gg ∧ i = .int .i64 kk ∧ Hid (Below w.heap.size w wr) ∧ Hid (∀ j (hj : j < xs.length), j < kk → p xs[j] = false))
  case atStart => exact ⟨0, Nat.zero_le _, by omega, rfl, Below.refl _ w, fun j _ hj => absurd hj (Nat.not_lt_zero _)⟩
  case round =>
    obtain ⟨kk, hkk, hg, rfl, HB, HA⟩ := hrel
    by_cases hlt : kk < n
    · have hltz : (kk : Int) < (n : Int) := by omega
      have hkx : kk < xs.length := by rw [HN.out]; exact hlt
      obtain ⟨ad, A3, c3, rfl, q0, q1, q2, q3, _, _⟩ := at_block HX.out HB.out kk hkx
      have hv : xs.getD kk z49 = xs[kk] := by simp [hkx]
      rw [hv] at q0 q1 q2 q3
      have hcall := HP.out wr xs[kk] A3 c3 HB.out
      clear hv
      generalize hy : xs[kk] = y at q0 q1 q2 q3 hcall
      have HY := Lib.hid hy
      clear hy
      cases hq : p y with
      | true =>
        rw [hq] at hcall
        have HC := Lib.hid hcall
        clear hcall
        go_wp2_with (go_at_fn g; refine HC.out.mono ?_; rintro e w' ⟨rfl, hb'⟩)
        go_ret
        refine ⟨?_, hb'⟩
        rw [idxOf_hit p xs kk hkx (by rw [HY.out]; exact hq) (fun j hj => HA.out j _ hj)]
        rfl
      | false =>
        rw [hq] at hcall
        have HC := Lib.hid hcall
        clear hcall
        go_wp2_with (go_at_fn g; refine HC.out.mono ?_; rintro e w' ⟨rfl, hb'⟩)
        go_roundg (n - (kk + 1))
        case measure => omega
        case rel =>
          refine ⟨kk + 1, by omega, by omega, by go_num, hb', (show Hid _ from fun j hjx hj => ?_)⟩
          by_cases e : j = kk
          · subst e
            rw [HY.out]; exact hq
          · exact HA.out j hjx (by omega)
    · have hltz : ¬ (kk : Int) < (n : Int) := by omega
      have : kk = n := by omega
      subst this
      go_wp2
      go_ret
      refine ⟨?_, HB.out⟩
      rw [idxOf_miss p xs (fun j hj => HA.out j hj (by rw [HN.out] at hj; exact hj))]
      rfl

/-- The index of the block that begins at a word, or -1. -/
def blockIdx (l : List S49) (at_ : Int) : Int := idxOf (fun b => b.f0 == at_) l

theorem blockIndex_fn (b : Nat) (a : Int) (x : S49) (A3 : Option Addr) (c3 : Nat) (w : World) (hb : Blk w b #[.int .i64 a] 3) :
    Calls Try.prog 58 (#[.agg #[.int .i64 x.f0, .int .i64 x.f1, .bool x.f2, .slice A3 x.f3.length c3]] ++ #[.pointer (some ⟨b, 0, none⟩)]) w fun e w' => e = .returned (.bool (x.f0 == a)) ∧ Below w.heap.size w w' := by
  have k0 := cell_alloc (hb.cell 0 rfl)
  have hlt := hb.lt
  clear hb
  go_enter Try.func58, Try.ntmps58
  go_wp2
  go_ret
  exact ⟨rfl, bl_alloc (Below.refl _ w) _⟩

theorem blockIndex_calls (A : Option Addr) (c : Nat) (l : List S49) (a : Int) (w : World) (hr : Kd.C k49 w A l.length l) (hc : l.length ≤ c) :
    Calls Try.prog 47 #[.slice A l.length c, .int .i64 a] w fun e w' => e = .returned (.int .i64 (blockIdx l a)) ∧ Below w.heap.size w w' := by
  have hB := bl_alloc (Below.refl _ w) (.cells #[.int .i64 a] 3)
  have hcf := IndexFunc_blocks 58 #[.pointer (some ⟨w.heap.size, 0, none⟩)] (fun b => b.f0 == a) A c l (w.alloc (.cells #[.int .i64 a] 3)) (enters_of Try.func58 (by kernel_rfl) rfl) (Kd.C_below hr hB)
    (fun W x A3 c3 hbW => (blockIndex_fn w.heap.size a x A3 c3 W ((Blk.new w _ _).bl hbW)).mono fun e w' ⟨he, hb'⟩ => ⟨he, bl_trans hbW hb'⟩)
  have HCF := Lib.hid hcf
  have HB := Lib.hid hB
  have HI := Lib.hid (show blockIdx l a = idxOf (fun b => b.f0 == a) l from rfl)
  clear hcf hB hr
  generalize idxOf (fun b => b.f0 == a) l = i at HCF HI
  go_enter Try.func47, Try.ntmps47
  go_wp2_with (go_at_call 57; refine HCF.out.mono ?_; rintro e w' ⟨rfl, hb'⟩)
  go_ret
  exact ⟨by rw [HI.out]; rfl, bl_trans HB.out hb'⟩
set_option maxHeartbeats 400000 in
theorem l13At_calls (A : Option Addr) (c : Nat) (xs : List S49) (a : Int) (w : World) (hx : Kd.C k49 w A xs.length xs) (hc : xs.length ≤ c) :
    Calls Try.prog 42 #[.slice A xs.length c, .int .i64 a] w fun e w' => e = .returned (.int .i64 (blockIdx xs a)) ∧ Below w.heap.size w w' := by
  have hl : xs.length ≤ 9223372036854775807 := hx.2.1
  have HX := Lib.hid hx
  clear hx
  generalize hn : xs.length = n at hl
  have HN := Lib.hid hn
  clear hn
  go_enter Try.func42, Try.ntmps42
  go_wp2
  go_loopg [9] n (fun gg i wr => ∃ kk : Nat, kk ≤ n ∧ n - kk ≤ gg ∧ i = .int .i64 kk ∧ Hid (Below w.heap.size w wr) ∧ Hid (∀ j (hj : j < xs.length), j < kk → (xs[j].f0 == a) = false))
  case atStart => exact ⟨0, Nat.zero_le _, by omega, rfl, Below.refl _ w, fun j _ hj => absurd hj (Nat.not_lt_zero _)⟩
  case round =>
    obtain ⟨kk, hkk, hg, rfl, HB, HA⟩ := hrel
    by_cases hlt : kk < n
    · have hltz : (kk : Int) < (n : Int) := by omega
      have hkx : kk < xs.length := by rw [HN.out]; exact hlt
      obtain ⟨ad, A3, c3, rfl, q0, q1, q2, q3, _, _⟩ := at_block HX.out HB.out kk hkx
      have hv : xs.getD kk z49 = xs[kk] := by simp [hkx]
      rw [hv] at q0 q1 q2 q3
      clear hv
      generalize hy : xs[kk] = y at q0 q1 q2 q3
      have HY := Lib.hid hy
      clear hy
      cases hq : (y.f0 == a) with
      | true =>
        have HQ := Lib.hid hq
        go_wp2_with fail
        go_ret
        refine ⟨?_, bl_alloc HB.out _⟩
        unfold blockIdx
        rw [idxOf_hit _ xs kk hkx (by rw [HY.out]; exact HQ.out) (fun j hj => HA.out j _ hj)]
        rfl
      | false =>
        have HQ := Lib.hid hq
        go_wp2_with fail
        go_roundg (n - (kk + 1))
        case measure => omega
        case rel =>
          refine ⟨kk + 1, by omega, by omega, by go_num, (show Hid _ from bl_alloc HB.out _), (show Hid _ from fun j hjx hj => ?_)⟩
          by_cases e : j = kk
          · subst e
            rw [HY.out]; exact HQ.out
          · exact HA.out j hjx (by omega)
    · have hltz : ¬ (kk : Int) < (n : Int) := by omega
      have : kk = n := by omega
      subst this
      go_wp2
      go_ret
      refine ⟨?_, HB.out⟩
      unfold blockIdx
      rw [idxOf_miss _ xs (fun j hj => HA.out j hj (by rw [HN.out] at hj; exact hj))]
      rfl

/-! What both say of a list of blocks -/
def endOf (l : List S49) (k : Nat) : Int := if k = 0 then 0 else (l.getD (k - 1) z49).f0 + (l.getD (k - 1) z49).f1
def rowOk (e : Int) (b : S49) : Bool := decide (1 ≤ b.f1 ∧ b.f1 ≤ 60) && decide (e ≤ b.f0 ∧ b.f0 ≤ 60 - b.f1) && decide (b.f3.length ≤ 3) && (b.f2 || b.f3.isEmpty)
def nameOk (l : List S49) (n : Int) : Bool := n == -1 || (decide (0 ≤ blockIdx l n) && (l.getD (blockIdx l n).toNat z49).f2)
def rowsB (l : List S49) : Bool := (List.range l.length).all fun k => rowOk (endOf l k) (l.getD k z49)
def namesB (l : List S49) : Bool := (List.range l.length).all fun k => (l.getD k z49).f3.all (nameOk l)
def goodB (l : List S49) : Bool := decide (l.length ≤ 12) && rowsB l && namesB l
theorem rowsB_not {l : List S49} {k : Nat} (hk : k < l.length) (h : rowOk (endOf l k) (l.getD k z49) = false) : goodB l = false := by
  have : rowsB l = false := by unfold rowsB; rw [List.all_eq_false]; exact ⟨k, List.mem_range.2 hk, by rw [h]; simp⟩
  unfold goodB; rw [this]; simp
theorem rowsB_all {l : List S49} (h : ∀ k, k < l.length → rowOk (endOf l k) (l.getD k z49) = true) : rowsB l = true := by
  unfold rowsB; rw [List.all_eq_true]; intro k hk; exact h k (List.mem_range.1 hk)
theorem namesB_not {l : List S49} {k j : Nat} (hk : k < l.length) (hj : j < (l.getD k z49).f3.length) (h : nameOk l ((l.getD k z49).f3.getD j 0) = false) : goodB l = false := by
  have : namesB l = false := by
    unfold namesB; rw [List.all_eq_false]; refine ⟨k, List.mem_range.2 hk, ?_⟩
    have : (l.getD k z49).f3.all (nameOk l) = false := by
      rw [List.all_eq_false]; exact ⟨(l.getD k z49).f3.getD j 0, by generalize (l.getD k z49).f3 = f at hj; simp [hj], by rw [h]; simp⟩
    rw [this]; simp
  unfold goodB; rw [this]; simp
theorem namesB_all {l : List S49} (h : ∀ k, k < l.length → (l.getD k z49).f3.all (nameOk l) = true) : namesB l = true := by
  unfold namesB; rw [List.all_eq_true]; intro k hk; exact h k (List.mem_range.1 hk)
theorem idxOf_lt {α : Type} (p : α → Bool) (xs : List α) : idxOf p xs < xs.length ∧ -1 ≤ idxOf p xs := by
  unfold idxOf
  cases h : xs.findIdx? p with
  | none => exact ⟨by simp; omega, by simp⟩
  | some i => rw [List.findIdx?_eq_some_iff_getElem] at h; obtain ⟨hi, _⟩ := h; exact ⟨by simpa using hi, by show (-1 : Int) ≤ (i : Int); omega⟩
theorem blockIdx_lt (l : List S49) (n : Int) : blockIdx l n < l.length ∧ -1 ≤ blockIdx l n := idxOf_lt _ _
theorem rowOk_iff (e : Int) (b : S49) : rowOk e b = true ↔ (1 ≤ b.f1 ∧ b.f1 ≤ 60) ∧ (e ≤ b.f0 ∧ b.f0 ≤ 60 - b.f1) ∧ b.f3.length ≤ 3 ∧ (b.f2 = true ∨ b.f3.length = 0) := by
  unfold rowOk
  simp only [Bool.and_eq_true, decide_eq_true_eq, Bool.or_eq_true, List.isEmpty_iff, List.length_eq_zero_iff, and_assoc]
end Go.Proofs.Ytdkembicgbffnaa.QB.BK
