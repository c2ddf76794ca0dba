import Derived.Test.YtemgbakjlbdibaaGg
import Derived.Test.YtemgbakjlbdibaaWKept
namespace Go.Proofs.Ytemgbakjlbdibaa.G
open Go.RowKit Go.Proofs.YtemgbakjlbdibaaW.PrintWords
set_option linter.unusedVariables false
/-- What has been written: nothing but blocks of S, and what is new. -/
structure Wrote (w w' : World) (S : Nat → Prop) : Prop where
  os : w'.os = w.os
  tape : w'.tape = w.tape
  output : w'.output = w.output
  size : w.heap.size ≤ w'.heap.size
  block : ∀ b, b < w.heap.size → ¬ S b → w'.heap[b]? = w.heap[b]?
theorem Wrote.refl (w : World) (S : Nat → Prop) : Wrote w w S := ⟨rfl, rfl, rfl, Nat.le_refl _, fun _ _ _ => rfl⟩
theorem Wrote.step {w w1 w2 : World} {S : Nat → Prop} {b : Nat} (h : Wrote w w1 S) (g : w1.grownBy w2 (some b)) (hS : S b) : Wrote w w2 S :=
  ⟨g.os.trans h.os, g.tape.trans h.tape, g.output.trans h.output, Nat.le_trans h.size g.size, fun c hc hs => (g.block c (Nat.lt_of_lt_of_le hc h.size) (fun e => by injection e with e; subst e; exact hs hS)).trans (h.block c hc hs)⟩
theorem Wrote.trans {w w1 w2 : World} {S : Nat → Prop} (h : Wrote w w1 S) (g : Wrote w1 w2 S) : Wrote w w2 S :=
  ⟨g.os.trans h.os, g.tape.trans h.tape, g.output.trans h.output, Nat.le_trans h.size g.size, fun c hc hs => (g.block c (Nat.lt_of_lt_of_le hc h.size) hs).trans (h.block c hc hs)⟩
theorem Wrote.mono {w w1 : World} {S S' : Nat → Prop} (h : Wrote w w1 S) (hs : ∀ b, S b → S' b) : Wrote w w1 S' := ⟨h.os, h.tape, h.output, h.size, fun b hb hn => h.block b hb (fun h2 => hn (hs b h2))⟩
theorem Wrote.below {w w1 : World} {S : Nat → Prop} {B : Nat} (h : Wrote w w1 S) (hB : B ≤ w.heap.size) (hs : ∀ b, S b → B ≤ b) : Below B w w1 := ⟨h.os, h.tape, h.output, h.size, fun k hk => h.block k (by omega) (fun h2 => by have := hs k h2; omega)⟩
theorem Wrote.kept {w w1 : World} {S : Nat → Prop} (h : Wrote w w1 S) : Kept w w1 S := ⟨h.size, fun i h1 h2 => h.block i h1 h2⟩
theorem Wrote.of_below {w w1 : World} {S : Nat → Prop} (h : Below w.heap.size w w1) : Wrote w w1 S := ⟨h.os, h.tape, h.output, h.size, fun b hb _ => h.block b hb⟩
/-- What marks are. -/
def markI (n : Nat) (k : Int) : List Int := (List.range n).map fun i : Nat => k + (i : Int)
def markB (n : Nat) (k : Int) : List Bool := (List.range n).map fun i : Nat => ((k + (i : Int)) % 3 == 0)
theorem markI_length (n : Nat) (k : Int) : (markI n k).length = n := by simp [markI]
theorem markB_length (n : Nat) (k : Int) : (markB n k).length = n := by simp [markB]
theorem list_of_get {α : Type} (z : α) (n : Nat) (f : Nat → α) (ys : List α) (hl : ys.length = n) (h : ∀ j, j < n → ys.getD j z = f j) : ys = (List.range n).map f := by
  apply List.ext_getElem
  · simp [hl]
  · intro j h1 h2
    have := h j (by omega)
    simp only [List.getD_eq_getElem?_getD, List.getElem?_eq_getElem h1, Option.getD_some] at this
    simp [this]
theorem getD_setI {α : Type} {l : List α} {z x : α} {k j : Nat} (hk : k < l.length) : (l.set k x).getD j z = if j = k then x else l.getD j z := by
  simp only [List.getD_eq_getElem?_getD, List.getElem?_set]
  by_cases h : k = j
  · subst h; simp [hk]
  · rw [if_neg h, if_neg (fun e => h e.symm)]
set_option maxHeartbeats 1000000 in
theorem markIntS_calls (v : Value) (xs : List Int) (k : Int) (base : Nat) (ok : Nat → Prop) (w : World) (h : Kd.R (Kd.int .i64) 3 w base ok v xs) (hl : xs.length ≤ 1048576) (hk0 : 0 ≤ k) (hk1 : k ≤ 1152921504606846976) :
    Calls Try.prog 21 #[v, .int .i64 k] w fun e w' => e = .returned (.int .i64 (k + (xs.length : Int))) ∧ Kd.R (Kd.int .i64) 3 w' base ok v (markI xs.length k) ∧ Wrote w w' (fun b => v.ownBlock = some b) := by
  have hlen := Kd.R_slice h
  obtain ⟨A, c, rfl⟩ := hlen
  have HR := Lib.hid h
  clear h
  generalize hn : xs.length = n at *
  have HN := Lib.hid hn
  clear hn
  go_enter Try.func21, Try.ntmps21
  go_wp2
  go_loopg [1, 5] n (fun gg v1 v5 wr => ∃ (i : Nat) (ys : List Int), i ≤ n ∧ n - i ≤ gg ∧ v5 = .int .i64 (i : Int) ∧ v1 = .int .i64 (k + (i : Int)) ∧ Hid (ys.length = n) ∧ Hid (∀ j, j < i → ys.getD j 0 = k + (j : Int)) ∧ Hid (Kd.R (Kd.int .i64) 3 wr base ok (.slice A n c) ys) ∧ Hid (Wrote w wr (fun b => (Value.slice A n c).ownBlock = some b)))
  case atStart => exact ⟨0, xs, Nat.zero_le _, by omega, rfl, by simp, HN.out, fun j hj => absurd hj (Nat.not_lt_zero _), HR.out, Wrote.refl _ _⟩
  case round =>
    obtain ⟨i, ys, hi, hg, rfl, rfl, HL, HA, HO, HW⟩ := hrel
    by_cases hlt : i < n
    · have hltz : (i : Int) < (n : Int) := by omega
      obtain ⟨g, cap, e, hb, hl2, cl, hgb⟩ := Kd.R_form HO.out (by rw [HL.out]; omega)
      injection e with ea en ec
      subst ea ec
      clear en
      obtain ⟨hx, hf⟩ := Kd.R_celln 0 HO.out (i : Int) (by omega) hltz
      rw [Int.toNat_natCast] at hx hf
      have hpp := Kd.R_putg HO.out (i : Int) (k + (i : Int))
      rw [Int.toNat_natCast] at hpp
      have HPP := Lib.hid hpp
      clear hpp
      go_wp2_with ((with_reducible refine gate_store (t := 3) (p := 15) rfl ?_); refine store_event (t := 3) (p := 15) (v := ?vo_w11) (w1 := (wr.setCell ⟨g, i, none⟩ (.int .i64 (k + (i : Int))))) ?hg ?ho ?hn ?hr ?_; (case ho => rfl); (case hg => rfl); (case hn => rfl); (case hr => first | (go_simp; done) | (go_simp; rfl)); intro w11 hw; have hg3 : wr.grownBy w11 (some g) := (by rw [hw]; exact HPP.out.2); have HO6 := Lib.hid (show Kd.R (Kd.int .i64) 3 w11 base ok (.slice (some ⟨g, 0, none⟩) n c) (ys.set i (k + (i : Int))) from by rw [hw]; exact HPP.out.1); have HW6 := Lib.hid (HW.out.step hg3 rfl); clear hw hg3)
      go_roundg (n - (i + 1))
      case measure => omega
      case rel =>
        refine ⟨i + 1, ys.set i (k + (i : Int)), by omega, by omega, by go_num, by go_num, (show Hid _ from by rw [List.length_set]; exact HL.out), (show Hid _ from fun j hj => ?_), HO6, HW6⟩
        rw [getD_setI (by rw [HL.out]; exact hlt)]
        by_cases e : j = i
        · rw [if_pos e, e]
        · rw [if_neg e]; exact HA.out j (by omega)
    · have : i = n := by omega
      have hltz : ¬ (i : Int) < (n : Int) := by omega
      subst this
      go_wp2
      go_ret
      refine ⟨rfl, ?_, HW.out⟩
      rw [show markI i k = ys from (list_of_get 0 i _ ys HL.out HA.out).symm]
      exact HO.out
set_option maxHeartbeats 1000000 in
theorem markBoolS_calls (v : Value) (xs : List Bool) (k : Int) (base : Nat) (ok : Nat → Prop) (w : World) (h : Kd.R Kd.bool 4 w base ok v xs) (hl : xs.length ≤ 1048576) (hk0 : 0 ≤ k) (hk1 : k ≤ 1152921504606846976) :
    Calls Try.prog 32 #[v, .int .i64 k] w fun e w' => e = .returned (.int .i64 (k + (xs.length : Int))) ∧ Kd.R Kd.bool 4 w' base ok v (markB xs.length k) ∧ Wrote w w' (fun b => v.ownBlock = some b) := by
  have hlen := Kd.R_slice h
  obtain ⟨A, c, rfl⟩ := hlen
  have HR := Lib.hid h
  clear h
  generalize hn : xs.length = n at *
  have HN := Lib.hid hn
  clear hn
  go_enter Try.func32, Try.ntmps32
  go_wp2
  go_loopg [1, 5] n (fun gg v1 v5 wr => ∃ (i : Nat) (ys : List Bool), i ≤ n ∧ n - i ≤ gg ∧ v5 = .int .i64 (i : Int) ∧ v1 = .int .i64 (k + (i : Int)) ∧ Hid (ys.length = n) ∧ Hid (∀ j, j < i → ys.getD j false = ((k + (j : Int)) % 3 == 0)) ∧ Hid (Kd.R Kd.bool 4 wr base ok (.slice A n c) ys) ∧ Hid (Wrote w wr (fun b => (Value.slice A n c).ownBlock = some b)))
  case atStart => exact ⟨0, xs, Nat.zero_le _, by omega, rfl, by simp, HN.out, fun j hj => absurd hj (Nat.not_lt_zero _), HR.out, Wrote.refl _ _⟩
  case round =>
    obtain ⟨i, ys, hi, hg, rfl, rfl, HL, HA, HO, HW⟩ := hrel
    by_cases hlt : i < n
    · have hltz : (i : Int) < (n : Int) := by omega
      obtain ⟨g, cap, e, hb, hl2, cl, hgb⟩ := Kd.R_form HO.out (by rw [HL.out]; omega)
      injection e with ea en ec
      subst ea ec
      clear en
      obtain ⟨hx, hf⟩ := Kd.R_celln false HO.out (i : Int) (by omega) hltz
      rw [Int.toNat_natCast] at hx hf
      have hpp := Kd.R_putg HO.out (i : Int) ((k + (i : Int)) % 3 == 0)
      rw [Int.toNat_natCast] at hpp
      have HPP := Lib.hid hpp
      clear hpp
      go_wp2_with ((with_reducible refine gate_store (t := 4) (p := 17) rfl ?_); refine store_event (t := 4) (p := 17) (v := ?vo_w11) (w1 := (wr.setCell ⟨g, i, none⟩ (.bool ((k + (i : Int)) % 3 == 0)))) ?hg ?ho ?hn ?hr ?_; (case ho => rfl); (case hg => rfl); (case hn => rfl); (case hr => first | (go_simp; done) | (go_simp; rfl)); intro w11 hw; have hg3 : wr.grownBy w11 (some g) := (by rw [hw]; exact HPP.out.2); have HO6 := Lib.hid (show Kd.R Kd.bool 4 w11 base ok (.slice (some ⟨g, 0, none⟩) n c) (ys.set i ((k + (i : Int)) % 3 == 0)) from by rw [hw]; exact HPP.out.1); have HW6 := Lib.hid (HW.out.step hg3 rfl); clear hw hg3)
      go_roundg (n - (i + 1))
      case measure => omega
      case rel =>
        refine ⟨i + 1, ys.set i ((k + (i : Int)) % 3 == 0), by omega, by omega, by go_num, by go_num, (show Hid _ from by rw [List.length_set]; exact HL.out), (show Hid _ from fun j hj => ?_), HO6, HW6⟩
        rw [getD_setI (by rw [HL.out]; exact hlt)]
        by_cases e : j = i
        · rw [if_pos e, e]
        · rw [if_neg e]; exact HA.out j (by omega)
    · have : i = n := by omega
      have hltz : ¬ (i : Int) < (n : Int) := by omega
      subst this
      go_wp2
      go_ret
      refine ⟨rfl, ?_, HW.out⟩
      rw [show markB i k = ys from (list_of_get false i _ ys HL.out HA.out).symm]
      exact HO.out
set_option maxHeartbeats 1000000 in
/-- Rows of rows: each row of its own, none of them another's block. -/
theorem markIntSS_calls (v : Value) (xs : List (List Int)) (k : Int) (base : Nat) (ok : Nat → Prop) (w : World) (h : Kd.S (Kd.slice 3 (Kd.int .i64)) 24 w base ok v xs) (hl : xs.length ≤ 1048576) (hs : ∀ x ∈ xs, x.length ≤ 1048576) (hk0 : 0 ≤ k) (hk1 : k ≤ 1099511627776) :
    Calls Try.prog 59 #[v, .int .i64 k] w fun e w' => ∃ r : Int, e = .returned (.int .i64 r) ∧ 0 ≤ r ∧ r ≤ k + 1048576 * (xs.length : Int) ∧ Wrote w w' ok := by
  have hlen := Kd.S_slice h
  obtain ⟨A, c, rfl⟩ := hlen
  by_cases hz : xs.length = 0
  · obtain rfl := List.eq_nil_of_length_eq_zero hz
    clear hz h hs hl
    simp only [List.length_nil]
    go_enter Try.func59, Try.ntmps59
    go_wp2
    go_loopg [1, 5] 0 (fun gg v1 v5 wr => v5 = .int .i64 0 ∧ v1 = .int .i64 k ∧ w = wr)
    case atStart => exact ⟨rfl, rfl, rfl⟩
    case round =>
      obtain ⟨rfl, rfl, rfl⟩ := hrel
      go_wp2
      go_ret
      exact ⟨k, rfl, hk0, by omega, Wrote.refl _ _⟩
  · obtain ⟨f, hf⟩ := h
    obtain ⟨g, cap, e, hb, hgl, cl, hgb⟩ := Kd.R_form hf (by simp; omega)
    rw [List.length_zipIdx] at e
    injection e with ea en ec
    subst ea ec
    clear en
    have hrows : ∀ j (hj : j < xs.length), ∃ vj, w.cell? ⟨g, j, none⟩ = some vj ∧ Kd.R (Kd.int .i64) 3 w base (fun b => (ok b ∧ b ≠ g) ∧ f b = j) vj (xs.getD j []) := by
      intro j hj
      obtain ⟨cs, hcl, hM, hcell, _⟩ := Kd.R_elem hf (xs[j], j) (j : Int) (by omega) (by omega)
      obtain ⟨vj, rfl, hR⟩ := hM
      refine ⟨vj, ?_, ?_⟩
      · have := hcell 0 vj rfl
        simpa [show (Kd.tag f (Kd.slice 3 (Kd.int .i64))).sz = 1 from rfl] using this
      · have e : xs.zipIdx.getD (j : Int).toNat (xs[j], j) = (xs[j], j) := by simp [hj]
        rw [e] at hR
        rw [show xs.getD j [] = xs[j] by simp [hj]]
        exact hR
    have HROWS := Lib.hid hrows
    have HS := Lib.hid hs
    clear hrows hs hf hz
    generalize hn : xs.length = n at *
    have HN := Lib.hid hn
    clear hn
    go_enter Try.func59, Try.ntmps59
    go_wp2
    go_loopg [1, 5] n (fun gg v1 v5 wr => ∃ (i : Nat) (r : Int), i ≤ n ∧ n - i ≤ gg ∧ v5 = .int .i64 (i : Int) ∧ v1 = .int .i64 r ∧ 0 ≤ r ∧ r ≤ k + 1048576 * (i : Int) ∧ Hid (∀ j, j < n → i ≤ j → ∃ vj, wr.cell? ⟨g, j, none⟩ = some vj ∧ Kd.R (Kd.int .i64) 3 wr base (fun b => (ok b ∧ b ≠ g) ∧ f b = j) vj (xs.getD j [])) ∧ Hid (Wrote w wr (fun b => ok b ∧ b ≠ g)))
    case atStart => exact ⟨0, k, Nat.zero_le _, by omega, rfl, rfl, hk0, by omega, fun j hj _ => HROWS.out j hj, Wrote.refl _ _⟩
    case round =>
      obtain ⟨i, r, hi, hg, rfl, rfl, hr0, hr1, HA, HW⟩ := hrel
      by_cases hlt : i < n
      · have hltz : (i : Int) < (n : Int) := by omega
        have hix : i < xs.length := by rw [HN.out]; exact hlt
        obtain ⟨vj, hcell, hR⟩ := HA.out i hlt (Nat.le_refl _)
        have hxl : (xs.getD i []).length ≤ 1048576 := by
          rw [show xs.getD i [] = xs[i] by simp [hix]]; exact HS.out xs[i] (List.getElem_mem hix)
        have hown := hR.1
        have HOWN := Lib.hid hown
        have HCALL := Lib.hid (markIntS_calls vj (xs.getD i []) r base _ wr hR hxl hr0 (by omega))
        clear hR hown
        generalize (xs.getD i []).length = m at HCALL hxl
        go_wp2_with (go_at_call 21; refine HCALL.out.mono ?_; rintro e w7 ⟨rfl, _, hw7⟩; have HW7 := Lib.hid hw7; clear hw7)
        go_roundg (n - (i + 1))
        case measure => omega
        case rel =>
          have hS : ∀ b, vj.ownBlock = some b → ok b ∧ b ≠ g := fun b hb => (HOWN.out b hb).1
          refine ⟨i + 1, r + (m : Int), by omega, by omega, by go_num, by go_num, by omega, by push_cast; omega, (show Hid _ from fun j hj hij => ?_), (show Hid _ from HW.out.trans (HW7.out.mono hS))⟩
          obtain ⟨u, hcu, hRu⟩ := HA.out j hj (by omega)
          refine ⟨u, ?_, Kd.R_kept hRu HW7.out.kept (fun b hb hb2 => ?_)⟩
          · have hgw : g < wr.heap.size := Nat.lt_of_lt_of_le hgl HW.out.size
            have hbk := HW7.out.block g hgw (fun hb2 => (hS g hb2).2 rfl)
            unfold World.cell? at hcu ⊢
            simp only at hcu ⊢
            rw [hbk]; exact hcu
          · have h1 := (HOWN.out b hb2).2
            have h2 := hb.2
            omega
      · have : i = n := by omega
        have hltz : ¬ (i : Int) < (n : Int) := by omega
        subst this
        go_wp2
        go_ret
        exact ⟨r, rfl, hr0, hr1, HW.out.mono fun b hb => hb.1⟩
/-- What a made heap is, when it is marked: rows of its own, its roots no row of its fields. -/
structure HeapMine (w : World) (base : Nat) (ok0 ok1 ok2 : Nat → Prop) (v0 v1 v2 : Value) (F : List (List Int)) (L : List Bool) (R : List Int) : Prop where
  f : Kd.S (Kd.slice 3 (Kd.int .i64)) 24 w base ok0 v0 F
  l : Kd.R Kd.bool 4 w base ok1 v1 L
  r : Kd.R (Kd.int .i64) 3 w base ok2 v2 R
  apart : ∀ b, ok0 b → some b ≠ v2.ownBlock
theorem types_one {w : World} {b q1 q2 : Nat} {c1 c2 : Array Value} (h1 : w.heap[b]? = some (.cells c1 q1 (0, 0))) (h2 : w.heap[b]? = some (.cells c2 q2 (0, 0))) : q1 = q2 := by
  rw [h1] at h2
  injection h2 with h2
  injection h2
theorem HeapMine.sharp {w : World} {base : Nat} {ok0 ok1 ok2 : Nat → Prop} {v0 v1 v2 : Value} {F : List (List Int)} {L : List Bool} {R : List Int} (h : HeapMine w base ok0 ok1 ok2 v0 v1 v2 F L R) :
    ∃ okx : Nat → Prop, Kd.S (Kd.slice 3 (Kd.int .i64)) 24 w base okx v0 F ∧ (∀ b, okx b → ok0 b ∧ b < w.heap.size) ∧ (∀ b, some b = v1.ownBlock → ¬ okx b) ∧ (∀ b, some b = v2.ownBlock → ¬ okx b) ∧ (∀ b, some b = v2.ownBlock → ¬ v1.ownBlock = some b) := by
  refine ⟨_, Kd.S_bound h.f, fun b hb => ⟨hb.1, hb.2.2.1⟩, fun b hb hx => ?_, fun b hb hx => h.apart b hx.1 hb, fun b hb hx => ?_⟩
  · obtain ⟨_, _, _, q, hq, cl, hcl⟩ := hx
    obtain ⟨cl2, hcl2⟩ := Kd.R_typed h.l b hb.symm
    have e := types_one hcl hcl2
    subst e
    exact absurd hq (by decide)
  · obtain ⟨cl, hcl⟩ := Kd.R_typed h.r b hb.symm
    obtain ⟨cl2, hcl2⟩ := Kd.R_typed h.l b hx
    have e := types_one hcl hcl2
    exact absurd e (by decide)
theorem Blk.wrote {W W' : World} {S : Nat → Prop} {b : Nat} {cs : Array Value} {t : TypeId} (h : Blk W b cs t) (hw : Wrote W W' S) (hn : ¬ S b) : Blk W' b cs t := ⟨(hw.block b h.lt hn).trans h.out⟩
set_option maxHeartbeats 1000000 in
theorem markHeap_calls (v0 v1 v2 : Value) (F : List (List Int)) (L : List Bool) (R : List Int) (k : Int) (base : Nat) (ok0 ok1 ok2 S : Nat → Prop) (w : World) (h : HeapMine w base ok0 ok1 ok2 v0 v1 v2 F L R)
    (hF : F.length ≤ 1048576) (hs : ∀ x ∈ F, x.length ≤ 1048576) (hL : L.length ≤ 1048576) (hR : R.length ≤ 1048576) (hk0 : 0 ≤ k) (hk1 : k ≤ 1048576) (h0 : ∀ b, ok0 b → S b) (h1 : ∀ b, ok1 b → S b) (h2 : ∀ b, ok2 b → S b) :
    Calls Try.prog 20 #[.agg #[v0, v1, v2], .int .i64 k] w fun e w' => ∃ r : Int, e = .returned (.int .i64 r) ∧ 0 ≤ r ∧ r ≤ k + 1099513724928 ∧ Wrote w w' S := by
  obtain ⟨okx, hx, hx1, s1, s2, s3⟩ := h.sharp
  have hB := bl_alloc (Below.refl _ w) (.cells #[v0, v1, v2] 30)
  have KB := Lib.hid (Blk.new w #[v0, v1, v2] 30)
  have HW0 := Lib.hid (Wrote.of_below (S := S) hB)
  have HL1 := Lib.hid (Kd.R_tight rfl (Kd.R_below h.l hB))
  have HR1 := Lib.hid (Kd.R_tight rfl (Kd.R_below h.r hB))
  have n0 : ¬ okx w.heap.size := fun hb => Nat.lt_irrefl _ (hx1 _ hb).2
  have n1 : ¬ v1.ownBlock = some w.heap.size := fun hb => Nat.lt_irrefl _ (Kd.R_lt h.l _ hb)
  have N0 := Lib.hid n0
  have N1 := Lib.hid n1
  have S1 := Lib.hid s1
  have S2 := Lib.hid s2
  have S3 := Lib.hid s3
  have HCALL := Lib.hid (markIntSS_calls v0 F k base _ _ (Kd.S_below hx hB) hF hs hk0 (by omega))
  have HS0 := Lib.hid (fun b (hb : okx b) => h0 b (hx1 b hb).1)
  have HS1 := Lib.hid (fun b (hb : v1.ownBlock = some b) => h1 b (h.l.1 b hb))
  have HS2 := Lib.hid (fun b (hb : v2.ownBlock = some b) => h2 b (h.r.1 b hb))
  have HLL := Lib.hid hL
  have HRR := Lib.hid hR
  have hFl : (F.length : Int) ≤ 1048576 := by omega
  have hLl : (L.length : Int) ≤ 1048576 := by omega
  have hRl : (R.length : Int) ≤ 1048576 := by omega
  clear h hx hx1 s1 s2 s3 n0 n1 h0 h1 h2 hL hR hs hF hB
  generalize F.length = nF at HCALL hFl
  have k0 := KB.out.cell 0 rfl
  go_enter Try.func20, Try.ntmps20
  go_wp2_with (first
    | (go_at_call 21; refine HCALL3.out.mono ?_; rintro e w5 ⟨rfl, _, hw5⟩; have HW3 := Lib.hid hw5; clear hw5)
    | (go_at_call 32; refine HCALL2.out.mono ?_; rintro e w4 ⟨rfl, _, hw4⟩; have HCALL3 := Lib.hid (markIntS_calls v2 R (kk + (L.length : Int)) base _ _ (Kd.R_kept HR2.out hw4.kept (fun b hb => S3.out b hb)) HRR.out (by omega) (by omega)); have k2 := (KB2.out.wrote hw4 N1.out).cell 2 rfl; have HW2 := Lib.hid hw4; clear hw4)
    | (go_at_call 59; refine HCALL.out.mono ?_; rintro e w3 ⟨kk, rfl, hk20, hk21, hw3⟩; have HCALL2 := Lib.hid (markBoolS_calls v1 L kk base _ _ (Kd.R_kept HL1.out hw3.kept (fun b hb => S1.out b hb)) HLL.out hk20 (by omega)); have HR2 := Lib.hid (Kd.R_kept HR1.out hw3.kept (fun b hb => S2.out b hb)); have KB2 := Lib.hid (KB.out.wrote hw3 N0.out); have k1 := KB2.out.cell 1 rfl; have HW1 := Lib.hid hw3; clear hw3))
  go_ret
  exact ⟨_, rfl, by omega, by omega, HW0.out.trans ((HW1.out.mono HS0.out).trans ((HW2.out.mono HS1.out).trans (HW3.out.mono HS2.out)))⟩

end Go.Proofs.Ytemgbakjlbdibaa.G
