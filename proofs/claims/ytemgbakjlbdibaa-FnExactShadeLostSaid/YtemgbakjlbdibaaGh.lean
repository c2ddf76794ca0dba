import Derived.Test.YtemgbakjlbdibaaGg
namespace Go.Proofs.Ytemgbakjlbdibaa.G
open Go.RowKit Go.Proofs.YtemgbakjlbdibaaW.PrintWords
set_option linter.unusedVariables false
/-- append(v, ys...), v a queue of whole numbers of one's own (it may begin inside its block). -/
theorem Qint_append {o : Oper} {ops : Array Oper} {rest : List Oper} {a : Act} {Q' : Exit → Act → World → Prop} {w0 W : World} (base : Nat) (hgd : o.guard = none) (s x : Operand) (t e : TypeId)
    (ho : o.op = .call { callee := .builtin .append, args := #[s, x], argTypes := #[t, t] })
    (ht : Try.prog.underlying t = some (.slice e)) (hinfo : (Try.prog.info? e).map (fun i => (i.zero, i.size, i.bytes)) = some (some (.int .i64 0), 1, 8))
    (v : Value) (xs ys : List Int) (A : Option Addr) (m c : Nat) (hs : a.eval s = v) (hx : a.eval x = .slice A m c)
    (HO : (Kd.int .i64).Q e W base (fun _ => True) v xs) (HR : (Kd.int .i64).C W A m ys)
    (HB : Below base w0 W) (hbase : base ≤ W.heap.size) (hl : (xs.length + m) * 8 ≤ 140737488355328)
    (h : ∀ v1 w1, (Kd.int .i64).Q e w1 base (fun _ => True) v1 (xs ++ ys) → Below base w0 w1 → W.grownBy w1 v.ownBlock → wpList Try.prog ops Q' rest (a.put o.dst v1) w1) :
    wpList Try.prog ops Q' (o :: rest) a W := by
  obtain ⟨i0, hi, hzz⟩ := Option.map_eq_some_iff.1 hinfo
  simp only [Prod.mk.injEq] at hzz
  obtain ⟨hz0, hz1, hz2⟩ := hzz
  have hm : ys.length = m := HR.1
  obtain ⟨hok, inner, hown, hr⟩ := HO
  have hrun : ∃ v1 w1, (Builtin.append_ #[t, t] o.type #[v, .slice A m c]).run Try.prog W = .ok v1 w1 ∧ (Kd.int .i64).Q e w1 base (fun _ => True) v1 (xs ++ ys) ∧ W.grownBy w1 v.ownBlock := by
    rcases Nat.eq_zero_or_pos m with h0 | h0
    · subst h0
      obtain rfl : ys = [] := List.eq_nil_of_length_eq_zero hm
      refine ⟨v, W, ?_, by rw [List.append_nil]; exact ⟨hok, inner, hown, hr⟩, World.grownBy.refl W _⟩
      rcases hown.2 with ⟨hn, A', rfl, _⟩ | ⟨g, off, cap, cur, rfl, _, _, hnc, _⟩
      · rw [hn] at *
        cases A <;> cases A' <;> simp [Builtin.append_, run_underlying ht, sizeOf, typeInfo, hi, Builtin.lenOf, Builtin.firstCells, storeCells, loadCells, loadCellsFrom]
      · cases A <;> simp [Builtin.append_, run_underlying ht, sizeOf, typeInfo, hi, Builtin.lenOf, Builtin.firstCells, hnc, storeCells, loadCells, loadCellsFrom]
    · obtain ⟨ad, rfl, hcells⟩ := HR.2.2 h0
      obtain ⟨news, hnr, hnc⟩ := ReadsRow.inner_ HR
      have hn1 : news.length = m * 1 := by rw [hnr.1, hm]; rfl
      have hone : ∀ u ∈ news, u.oneCell' = true := by
        intro u hu
        obtain ⟨q, hq, rfl⟩ := List.mem_iff_getElem.1 hu
        have hql : q < ys.length := by omega
        have hc := hnr.2 q _ (List.getElem?_eq_getElem hql)
        refine Kd.K_one _ hc _ ?_
        rw [List.mem_iff_getElem?]
        refine ⟨0, ?_⟩
        show ((news.drop (q * 1)).take 1)[0]? = _
        rw [List.getElem?_take, if_pos (by omega), List.getElem?_drop, Nat.mul_one, Nat.add_zero, List.getElem?_eq_getElem hq]
      obtain ⟨v1, w1, hrun, hq1, hg, hat⟩ := q_append (P := Try.prog) W base t o.type e i0 (.int .i64 0) 1 8 ht hi hz0 hz1 hz2 rfl (by omega) v xs.length inner hown ad m c news hn1 hnc hone h0 (by simp only [maxLen]; omega) hl hbase
      refine ⟨v1, w1, hrun, ⟨fun _ _ => trivial, inner ++ news, by rw [List.length_append, hm]; exact hq1, ?_⟩, hg⟩
      refine Kd.reps_append (hr.imp_ fun p cs hp => ?_) (hnr.imp_ fun p cs hp => ?_)
      · exact hp
      · exact hp
  obtain ⟨v1, w1, hr1, h1, hg⟩ := hrun
  refine wpList_plain hgd fun K hK => ?_
  unfold Oper.wp execOp
  simp only [ho, resolve, invoke, builtin, Sem.run_bind, Sem.run_pure, Result.andThen_ok, List.map_toArray, List.map_cons, List.map_nil, hs, hx, hr1]
  exact hK _ _ (h v1 w1 h1 (HB.grown hg hbase (fun k hk => (q_typed hown k hk).1)) hg)
/-- The search itself, in plain words: from a queue, at most so many rounds. -/
def srch (F : List (List Int)) : Nat → List Bool → List Int → List Bool
  | 0, out, _ => out
  | _ + 1, out, [] => out
  | g + 1, out, x :: rest => if x < 0 ∨ out.getD x.toNat false = true then srch F g out rest else srch F g (out.set x.toNat true) (rest ++ F.getD x.toNat [])
/-- What is reachable from names. -/
def seenB (F : List (List Int)) (from_ : List Int) : List Bool := srch F (4 * F.length + from_.length + 1) (List.replicate F.length false) from_
/-- May this be searched? -/
def okFrom (F : List (List Int)) (fr : List Int) : Bool := decide (F.length ≤ 1048576) && decide (fr.length ≤ 1048576) && fr.all (fun x => decide (x < (F.length : Int))) && F.all (fun f => decide (f.length ≤ 3) && f.all (fun x => decide (x < (F.length : Int))))
theorem okFrom_iff {F : List (List Int)} {fr : List Int} : okFrom F fr = true ↔ ReachOk F fr ∧ fr.length ≤ 1048576 := by
  unfold okFrom
  simp only [Bool.and_eq_true, decide_eq_true_eq, List.all_eq_true]
  exact ⟨fun ⟨⟨⟨h1, h2⟩, h3⟩, h4⟩ => ⟨⟨h1, h3, h4⟩, h2⟩, fun ⟨⟨h1, h3, h4⟩, h2⟩ => ⟨⟨⟨h1, h2⟩, h3⟩, h4⟩⟩
theorem srch_eq {F : List (List Int)} {fr : List Int} (ok : ReachOk F fr) : ∀ (g : Nat) (out : List Bool) (q : List Int), SInv F fr (fun _ => true) out q → todo out q < g → srch F g out q = reachB F fr (fun _ => true) := by
  intro g
  induction g with
  | zero => intro out q _ h; omega
  | succ g ih =>
    intro out q HS ht
    cases q with
    | nil => exact HS.stop
    | cons x rest =>
      have hq : ∀ y, y ∈ x :: rest ↔ y = x ∨ y ∈ rest := fun y => by simp
      have hl : todo out (x :: rest) = todo out rest + 1 := by unfold todo; simp; omega
      simp only [srch]
      split
      · next h =>
        refine ih _ _ (HS.skip hq ?_) (by omega)
        rcases h with h | h
        · exact .inl h
        · exact .inr (.inl h)
      · next h =>
        rw [not_or] at h
        have h0 : 0 ≤ x := by omega
        have hx : x < (F.length : Int) := HS.inq x (by simp)
        obtain ⟨n, rfl⟩ := Int.eq_ofNat_of_zero_le h0
        simp only [Int.toNat_natCast] at h ⊢
        have hm := todo_mark (out := out) (n := n) (by rw [HS.len]; omega) (by simpa using h.2) rest (F.getD n []) (ok.row n).1
        exact ih _ _ (HS.mark hq rfl (ok.row n).2) (by omega)
theorem seenB_eq {F : List (List Int)} {fr : List Int} (ok : ReachOk F fr) : seenB F fr = reachB F fr (fun _ => true) :=
  srch_eq ok _ _ _ (SInv.start F fr _ ok.fr) (by rw [todo_start]; omega)
theorem seenB_length {F : List (List Int)} {fr : List Int} (ok : ReachOk F fr) : (seenB F fr).length = F.length := by rw [seenB_eq ok, reachB_length]
/-- What is reachable from more names. -/
theorem Reaches_or (F : List (List Int)) (a b : List Int) (may : Nat → Bool) (k : Nat) : Reaches F (a ++ b) may k ↔ Reaches F a may k ∨ Reaches F b may k := by
  constructor
  · intro h
    induction h with
    | root k h hm =>
      rcases List.mem_append.1 h with h | h
      · exact .inl (.root k h hm)
      · exact .inr (.root k h hm)
    | field i k _ h hm ih =>
      rcases ih with ih | ih
      · exact .inl (.field i k ih h hm)
      · exact .inr (.field i k ih h hm)
  · rintro (h | h)
    · induction h with
      | root k h hm => exact .root k (List.mem_append_left _ h) hm
      | field i k _ h hm ih => exact .field i k ih h hm
    · induction h with
      | root k h hm => exact .root k (List.mem_append_right _ h) hm
      | field i k _ h hm ih => exact .field i k ih h hm
/-- Two rows, taken together. -/
def orB (a b : List Bool) : List Bool := List.zipWith (· || ·) a b
theorem seenB_append {F : List (List Int)} {a b : List Int} (ha : ReachOk F a) (hb : ReachOk F b) : seenB F (a ++ b) = orB (seenB F a) (seenB F b) := by
  have hab : ReachOk F (a ++ b) := ⟨ha.n, fun x hx => (List.mem_append.1 hx).elim (ha.fr x) (hb.fr x), ha.rows⟩
  rw [seenB_eq ha, seenB_eq hb, seenB_eq hab]
  unfold orB
  apply List.ext_getElem
  · simp [reachB_length]
  · intro k h1 h2
    have hk : k < F.length := by rw [reachB_length] at h1; exact h1
    simp only [reachB, List.getElem_map, List.getElem_range, List.getElem_zipWith]
    rw [Bool.eq_iff_iff]
    simp [Reaches_or]
theorem seenB_self {F : List (List Int)} {a : List Int} (ha : ReachOk F a) (k : Nat) (hk : (k : Int) ∈ a) : (seenB F a).getD k false = true := by
  rw [seenB_eq ha, reachB_get _ _ _ _ (by have := ha.fr _ hk; omega)]
  exact .root k hk rfl
theorem orB_get (a b : List Bool) (h : a.length = b.length) (k : Nat) : (orB a b).getD k false = (a.getD k false || b.getD k false) := by
  unfold orB
  by_cases hk : k < a.length
  · have hk2 : k < b.length := by omega
    have h3 : k < (List.zipWith (· || ·) a b).length := by simp; omega
    simp only [List.getD_eq_getElem?_getD, List.getElem?_eq_getElem hk, List.getElem?_eq_getElem hk2, List.getElem?_eq_getElem h3, List.getElem_zipWith, Option.getD_some]
  · simp only [List.getD_eq_getElem?_getD]
    rw [List.getElem?_eq_none (by simp; omega), List.getElem?_eq_none (by omega), List.getElem?_eq_none (by omega)]; rfl
set_option maxRecDepth 100000 in
/-- The objects reachable from the roots. -/
theorem reached_calls (A0 A1 A2 : Option Addr) (c0 c1 c2 : Nat) (F : List (List Int)) (L : List Bool) (R : List Int) (w : World) (hh : HeapAt w A0 A1 A2 c0 c1 c2 F L R) (hok : okFrom F R = true) :
    Calls Try.prog 67 #[.agg #[.slice A0 F.length c0, .slice A1 L.length c1, .slice A2 R.length c2]] w fun e w' => ∃ v, e = .returned v ∧ Kd.R Kd.bool 4 w' w.heap.size (fun _ => True) v (seenB F R) ∧ Below w.heap.size w w' := by
  obtain ⟨ok, hm⟩ := okFrom_iff.1 hok
  have hB := bl_alloc (Below.refl _ w) (.cells #[.slice A0 F.length c0, .slice A1 L.length c1, .slice A2 R.length c2] 30)
  have HC := Lib.hid (reach_calls A0 A1 A2 c0 c1 c2 F L R A2 c2 R _ (hh.below hB) (Kd.C_below hh.rR hB) hh.cR hm ok)
  rw [← seenB_eq ok] at HC
  have HB := Lib.hid hB
  clear hh hB hok ok hm
  go_enter Try.func67, Try.ntmps67
  go_wp2_with (go_at_call 75; refine HC.out.mono ?_; rintro e w5 ⟨v8, rfl, ho8, hb8⟩; have HO8 := Lib.hid (Kd.R_lower ho8 HB.out.size); have HB8 := Lib.hid (bl_trans HB.out hb8); clear ho8 hb8)
  go_ret
  exact ⟨_, rfl, HO8.out, HB8.out⟩

end Go.Proofs.Ytemgbakjlbdibaa.G
