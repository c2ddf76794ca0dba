import Derived.Test.YtemgbakjlbdibaaGf
import Derived.Test.YtemgbakjlbdibaaWLast
namespace Go.Proofs.Ytemgbakjlbdibaa.G
open Go.RowKit Go.Proofs.YtemgbakjlbdibaaW.PrintWords Go.Proofs.YtemgbakjlbdibaaW.PrintLast
set_option linter.unusedVariables false
/-- append(nothing, make([]int, n)...). -/
theorem run_append_make (ty : TypeId) (w : World) (n : Nat) (h0 : 0 < n) (hn : n ≤ 1048576) : ∃ cap cells, (Builtin.append_ #[24, 3] ty #[.slice none 0 0, .int .i64 (n : Int)]).run Try.prog w = .ok (.slice (some ⟨w.heap.size, 0, none⟩) n cap) (w.drew.alloc (.cells cells 3)) ∧ cells.size = cap ∧ n ≤ cap ∧ cap ≤ maxLen := by
  obtain ⟨i0, hi, hzz⟩ := Option.map_eq_some_iff.1 infoI
  simp only [Prod.mk.injEq] at hzz
  obtain ⟨hz, hs, hb⟩ := hzz
  have hw : IntKind.i64.wrap (n : Int) = (n : Int) := IntWalk.i64_in _ (by omega)
  have hne : n ≠ 0 := by omega
  have h63 : ¬ (9223372036854775807 < (n : Int)) := by omega
  have h48 : ¬ (281474976710656 < (n : Int) * (i0.bytes : Int)) := by rw [hb]; omega
  have h48' : ¬ (281474976710656 < Builtin.nextslicecap n 0 * i0.bytes) := by rw [nextslicecap_zero h0, hb]; omega
  have hneg : ¬ ((n : Int) < 0) := by omega
  have hge := grownCap_ge w n 0 3
  have hcm := grownCap_le_maxLen w n 0 3 (by simp only [maxLen]; omega)
  refine ⟨grownCap w n 0 3, Builtin.zeroCells #[.int .i64 0] n ++ Builtin.zeroCells #[.int .i64 0] (grownCap w n 0 3 - n), ?_, ?_, hge, hcm⟩
  · simp [Builtin.append_, run_underlying Try.underlying24, run_underlying Try.underlying3, sizeOf, typeInfo, zeroValue, hi, hz, hs, asInt, asIntOf, hw, hneg, hne, h63, h48, h48', Question.forced, run_firstCells_none, newRow, grownCap, Value.cells]
  · simp [Builtin.zeroCells]; omega
theorem Grow_append {o : Oper} {ops : Array Oper} {rest : List Oper} {a : Act} {Q' : Exit → Act → World → Prop} {W : World} (n : Nat) (h0 : 0 < n) (hn : n ≤ 1048576) (hgd : o.guard = none) (s x : Operand)
    (ho : o.op = .call { callee := .builtin .append, args := #[s, x], argTypes := #[24, 3] }) (hs : a.eval s = .slice none 0 0) (hx : a.eval x = .int .i64 (n : Int))
    (h : ∀ cap cells, cells.size = cap → n ≤ cap → cap ≤ maxLen → wpList Try.prog ops Q' rest (a.put o.dst (.slice (some ⟨W.heap.size, 0, none⟩) n cap)) (W.drew.alloc (.cells cells 3))) :
    wpList Try.prog ops Q' (o :: rest) a W := by
  obtain ⟨cap, cells, hr, h1, h2, h3⟩ := run_append_make o.type W n h0 hn
  refine wpList_plain hgd fun K hK => ?_
  unfold Oper.wp execOp
  simp only [ho, resolve, invoke, builtin, Sem.run_bind, Sem.run_pure, Result.andThen_ok, List.map_toArray, List.map_cons, List.map_nil, hs, hx, hr]
  exact hK _ _ (h cap cells h1 h2 h3)
theorem R_room (e : Nat) (w : World) (base : Nat) (cap : Nat) (cells : Array Value) (hc : cells.size = cap) (hm : cap ≤ maxLen) (hb : base ≤ w.heap.size) : (Kd.int .i64).R e (w.alloc (.cells cells e)) base (fun _ => True) (.slice (some ⟨w.heap.size, 0, none⟩) 0 cap) [] :=
  ⟨fun _ _ => trivial, [], ⟨by simp, .inr ⟨w.heap.size, cap, cells, rfl, hb, heap_alloc_new w _, Nat.zero_le _, hm, by rw [hc]; exact (Nat.mul_one _).symm, by simp⟩⟩, Reps.none _ _⟩
set_option maxHeartbeats 1000000 in
set_option maxRecDepth 100000 in
/-- slices.Grow of nothing: an empty row of one's own. -/
theorem Grow_calls (n : Nat) (hn : n ≤ 1048576) (w : World) :
    Calls Try.prog 104 #[.slice none 0 0, .int .i64 (n : Int)] w fun e w' => ∃ v, e = .returned v ∧ Kd.R (Kd.int .i64) 3 w' w.heap.size (fun _ => True) v [] ∧ Below w.heap.size w w' := by
  by_cases h0 : n = 0
  · subst h0
    go_enter Try.func104, Try.ntmps104
    go_wp2
    go_ret
    exact ⟨_, rfl, Kd.R_nil _ _ _ _ _, Below.refl _ w⟩
  · have hp : 0 < n := by omega
    have hp1 : 0 < (n : Int) := by omega
    go_enter Try.func104, Try.ntmps104
    go_wp2_with (at_builtin; refine Grow_append n hp hn rfl (.tmp 20) (.tmp 21) rfl rfl rfl ?_; intro cap cells h1 h2 h3; have H1 := Lib.hid h1; have H2 := Lib.hid h2; have H3 := Lib.hid h3; clear h1 h2 h3)
    go_ret
    exact ⟨_, rfl, R_room _ _ _ _ _ H1.out H3.out (Nat.le_refl _), bl_alloc (bl_drew (Below.refl _ w)) _⟩
set_option maxHeartbeats 1000000 in
set_option maxRecDepth 100000 in
/-- slices.Concat: the rows in line, in a row of one's own. -/
theorem Concat_calls (A : Option Addr) (c : Nat) (xss : List (List Int)) (w : World) (hr : Kd.C (Kd.slice 3 (Kd.int .i64)) w A xss.length xss) (hl : xss.length ≤ 1048576) (hs : xss.flatten.length ≤ 1048576) :
    Calls Try.prog 96 #[.slice A xss.length c] w fun e w' => ∃ v, e = .returned v ∧ Kd.R (Kd.int .i64) 3 w' w.heap.size (fun _ => True) v xss.flatten ∧ Below w.heap.size w w' := by
  have HR := Lib.hid hr
  have HS := Lib.hid hs
  clear hr hs
  have hpre : ∀ i, ((xss.take i).flatten).length ≤ xss.flatten.length := fun i => by
    conv => rhs; rw [← List.take_append_drop i xss, List.flatten_append, List.length_append]
    omega
  have HPRE := Lib.hid hpre
  clear hpre
  generalize hn : xss.length = n at *
  have HN := Lib.hid hn
  clear hn
  go_enter Try.func96, Try.ntmps96
  go_wp2_with fail
  go_loopg [3, 11] n (fun gg v3 v11 wr => ∃ (i m : Nat), i ≤ n ∧ n - i ≤ gg ∧ v11 = .int .i64 (i : Int) ∧ v3 = .int .i64 (m : Int) ∧ Hid (m = (xss.take i).flatten.length) ∧ w = wr)
  case atStart => exact ⟨0, 0, Nat.zero_le _, by omega, rfl, rfl, (show Hid _ from rfl), rfl⟩
  case round =>
    obtain ⟨i, m, hi, hg, rfl, rfl, HM, rfl⟩ := hrel
    have hm1 : m ≤ 1048576 := by have h1 := HM.out; have h2 := HPRE.out i; have h3 := HS.out; omega
    by_cases hlt : i < n
    · have hltz : (i : Int) < (n : Int) := by omega
      have hix : i < xss.length := by rw [HN.out]; exact hlt
      obtain ⟨ad, Ak, ck, rfl, hcell, hle, hrk⟩ := at_rows (by rw [HN.out]; exact HR.out) i hix
      have htk : (xss.take (i + 1)).flatten = (xss.take i).flatten ++ xss[i] := by rw [List.take_succ_eq_append_getElem hix, List.flatten_append]; simp
      have h2 := HPRE.out (i + 1)
      have h3 := HS.out
      have hM2 : m + xss[i].length = (xss.take (i + 1)).flatten.length := by rw [htk, List.length_append, HM.out]
      rw [← hM2] at h2
      have HM2 := Lib.hid hM2
      clear hrk htk hM2
      generalize xss[i].length = rl at *
      have hlen : (m : Int) + (rl : Int) ≤ 1048576 := by omega
      have hm0 : 0 ≤ (m : Int) + (rl : Int) := by omega
      clear h2 h3
      go_wp2_with fail
      go_roundg (n - (i + 1))
      case measure => omega
      case rel => exact ⟨i + 1, m + rl, by omega, by omega, by go_num, by go_num, HM2, rfl⟩
    · have : i = n := by omega
      have hltz : ¬ (i : Int) < (n : Int) := by omega
      subst this
      have hMT : m = xss.flatten.length := by rw [HM.out, List.take_of_length_le (by rw [HN.out]; exact Nat.le_refl _)]
      have HG := Lib.hid (Grow_calls m hm1 w)
      clear hMT
      obtain ⟨gko, rfl⟩ : ∃ gko : Nat, gko = gk := ⟨_, rfl⟩
      go_wp2_with (go_at_call 104; refine HG.out.mono ?_; rintro e w5 ⟨v6, rfl, ho, hb⟩; have HO5 := Lib.hid ho; have HB5 := Lib.hid hb; clear ho hb)
      go_loopg [6, 27] i (fun gg v6 v27 wr => ∃ j : Nat, j ≤ i ∧ i - j ≤ gg ∧ v27 = .int .i64 (j : Int) ∧ Hid (Kd.R (Kd.int .i64) 3 wr w.heap.size (fun _ => True) v6 (xss.take j).flatten) ∧ Hid (Below w.heap.size w wr))
      case atStart => exact ⟨0, Nat.zero_le _, by omega, rfl, HO5, HB5⟩
      case round =>
        obtain ⟨j, hj, hg2, rfl, HO, HB⟩ := hrel
        clear HO5 HB5
        by_cases hlt2 : j < i
        · have hltz2 : (j : Int) < (i : Int) := by omega
          have hix : j < xss.length := by rw [HN.out]; exact hlt2
          obtain ⟨ad, Ak, ck, rfl, hcell, hle, hrk⟩ := at_rows (by rw [HN.out]; exact HR.out) j hix
          have htk : (xss.take (j + 1)).flatten = (xss.take j).flatten ++ xss[j] := by rw [List.take_succ_eq_append_getElem hix, List.flatten_append]; simp
          have h2 := HPRE.out (j + 1)
          have h3 := HS.out
          rw [htk, List.length_append] at h2
          have HTK := Lib.hid htk
          have HBD := Lib.hid (show ((xss.take j).flatten.length + xss[j].length) * 8 ≤ 140737488355328 from by omega)
          have HRK := Lib.hid (Kd.C_below hrk HB.out)
          replace hcell := cell_bl HB.out hcell
          clear h2 h3 htk hrk
          generalize xss[j] = row at *
          go_wp2_with (at_builtin; go_loud (refine Kd.R_append_rows (Kd.int .i64) (w0 := w) w.heap.size rfl (.tmp 31) (.tmp 32) 24 3 (.int .i64 0) 8 rfl Try.underlying24 infoI rfl (by decide) (by omega) _ (xss.take j).flatten row _ row.length ck (fun _ => True) (fun _ => False) rfl rfl HO.out HRK.out (fun _ _ h => h) (fun _ h => h.elim) (fun _ _ => trivial) HB.out HB.out.size HBD.out ?_); intro v1 w1 ho hb hg3 hat; have HO1 := Lib.hid ho; have HB1 := Lib.hid hb; clear ho hb hg3 hat)
          go_roundg (i - (j + 1))
          case measure => omega
          case rel => exact ⟨j + 1, by omega, by omega, by go_num, (show Hid _ from by rw [HTK.out]; exact HO1.out), HB1⟩
        · have : j = i := by omega
          have hltz2 : ¬ (j : Int) < (i : Int) := by omega
          subst this
          have HOT := Lib.hid (show Kd.R (Kd.int .i64) 3 wr w.heap.size (fun _ => True) _ xss.flatten from by have h := HO.out; rw [List.take_of_length_le (by rw [HN.out]; exact Nat.le_refl _)] at h; exact h)
          go_wp2
          go_ret
          exact ⟨_, rfl, HOT.out, HB.out⟩

end Go.Proofs.Ytemgbakjlbdibaa.G
