/- The plain law of LoopAfter: loop.After returns the position and the state after any number of steps up to 2^60 of a machine with a loop, or the documented error. For every machine and all numbers. No condition beyond what every argument has (numbers of their kind, lists within memory). -/
import Derived.Test.YtngmdidegmbpfaaAid
import Derived.Test.YtngmdidegmbpfaaPLoopAfterx10
namespace Go.Proofs.Ytngmdidegmbpfaa.Pure
open Go.RowKit Go.Proofs.Ytngmdidegmbpfaa.PLoopAfter Go.Proofs.YtngmdidegmbpfaaW.PrintWords Go.Proofs.YtngmdidegmbpfaaW.PrintLast Go.Proofs.YtngmdidegmbpfaaW.PrintMore Go.Proofs.YtngmdidegmbpfaaAid
set_option linter.unusedVariables false
set_option linter.unusedSimpArgs false

theorem wrapn (i : Nat) (h : i ≤ 1000000000000000000) : wrap64 ((i : Int) + 1) = ((i + 1 : Nat) : Int) := by
  rw [wrap_id (by omega) (by omega)]; omega
theorem rdT (l : List S52) (i : Nat) (h : i < l.length) : rd_T52 l (i : Int) = l[i] := by
  simp [rd_T52, List.getD, h]
theorem rdL (l : List (List S52)) (i : Nat) (h : i < l.length) : rd_L2 l (i : Int) = l[i] := by
  simp [rd_L2, List.getD, h]
def okR (St Sy : Int) (r : S52) : Prop := 0 ≤ r.f0 ∧ r.f0 < Sy ∧ (r.f1 = -1 ∨ r.f1 = 1) ∧ -1 ≤ r.f2 ∧ r.f2 < St
instance decOkR (St Sy : Int) (r : S52) : Decidable (okR St Sy r) := by unfold okR; infer_instance
def okRb (St Sy : Int) (r : S52) : Bool := decide (okR St Sy r)
def okRow (St Sy : Int) (l : List S52) : Bool := decide ((l.length : Int) = Sy) && l.all (okRb St Sy)
def okM (St Sy : Int) (l : List (List S52)) : Bool := decide (1 ≤ St ∧ St ≤ 6 ∧ 2 ≤ Sy ∧ Sy ≤ 4 ∧ (l.length : Int) = St) && l.all (okRow St Sy)

theorem tv_row (St Sy : Int) (rules : List (List S52)) (row : List S52) (j : Nat) (B : Bool) (hr : row.length ≤ 100000000000000) (hB : Ev (fun k => tape_Valid.l0 k rules (rules.length : Int) (wrap64 ((j : Int) + 1)) St Sy rules) B) : ∀ (d i : Nat), i + d = row.length →
    Ev (fun k => tape_Valid.l1 k rules (rules.length : Int) (j : Int) row (row.length : Int) (i : Int) St Sy rules) ((row.drop i).all (okRb St Sy) && B) := by
  intro d
  induction d with
  | zero =>
    intro i hi
    rw [Ev_succ]
    simp only [tape_Valid.l1, Ev_ite, Ev_some, Ev_none]
    rw [if_neg (by omega), List.drop_eq_nil_of_le (by omega)]
    simpa using hB
  | succ d ih =>
    intro i hi
    have hlt : i < row.length := by omega
    have ih := ih (i + 1) (by omega)
    rw [drop_cons row i hlt, List.all_cons, Ev_succ]
    simp only [tape_Valid.l1, Ev_ite, Ev_some, Ev_none]
    rw [if_pos (by omega), if_pos (by omega), if_pos (by omega), rdT row i hlt, wrapn i (by omega)]
    generalize row[i] = x
    obtain ⟨f0, f1, f2⟩ := x
    simp only
    by_cases hok : okR St Sy ⟨f0, f1, f2⟩
    · rw [okRb, decide_eq_true hok, Bool.true_and]
      obtain ⟨h0, h1, h2, h3, h4⟩ := hok
      simp only at h0 h1 h2 h3 h4
      rw [if_neg (by omega), if_neg (by omega)]
      rcases h2 with h2 | h2
      · rw [if_pos h2, if_neg (by omega), if_neg (by omega)]
        exact ih
      · rw [if_neg (by omega), if_pos h2, if_neg (by omega), if_neg (by omega)]
        exact ih
    · rw [okRb, decide_eq_false hok, Bool.false_and, Bool.false_and]
      simp only [okR] at hok
      by_cases c0 : f0 < 0
      · rw [if_pos c0]
      rw [if_neg c0]
      by_cases c1 : f0 ≥ Sy
      · rw [if_pos c1]
      rw [if_neg c1]
      by_cases c2 : f1 = -1
      · rw [if_pos c2]
        by_cases c3 : f2 < -1
        · rw [if_pos c3]
        rw [if_neg c3]
        by_cases c4 : f2 ≥ St
        · rw [if_pos c4]
        · exact absurd ⟨by omega, by omega, .inl c2, by omega, by omega⟩ hok
      rw [if_neg c2]
      by_cases c5 : f1 = 1
      · rw [if_pos c5]
        by_cases c3 : f2 < -1
        · rw [if_pos c3]
        rw [if_neg c3]
        by_cases c4 : f2 ≥ St
        · rw [if_pos c4]
        · exact absurd ⟨by omega, by omega, .inr c5, by omega, by omega⟩ hok
      · rw [if_neg c5]
theorem tv_rows (St Sy : Int) (rules : List (List S52)) (hl : rules.length ≤ 100000000000000) (hr : ∀ r ∈ rules, r.length ≤ 100000000000000) : ∀ (d j : Nat), j + d = rules.length →
    Ev (fun k => tape_Valid.l0 k rules (rules.length : Int) (j : Int) St Sy rules) ((rules.drop j).all (okRow St Sy)) := by
  intro d
  induction d with
  | zero =>
    intro j hj
    rw [Ev_succ]
    simp only [tape_Valid.l0, Ev_ite, Ev_some, Ev_none]
    rw [if_neg (by omega), List.drop_eq_nil_of_le (by omega)]
    rfl
  | succ d ih =>
    intro j hj
    have hlt : j < rules.length := by omega
    have ih := ih (j + 1) (by omega)
    rw [drop_cons rules j hlt, List.all_cons, Ev_succ]
    simp only [tape_Valid.l0, Ev_ite, Ev_some, Ev_none]
    rw [if_pos (by omega), if_pos (by omega), if_pos (by omega), rdL rules j hlt]
    by_cases c : ((rules[j].length : Nat) : Int) = Sy
    · rw [if_pos c, okRow, decide_eq_true c, Bool.true_and]
      have := tv_row St Sy rules rules[j] j _ (hr _ (List.getElem_mem hlt)) (by rw [wrapn j (by omega)]; exact ih) rules[j].length 0 (by omega)
      simpa using this
    · rw [if_neg c, okRow, decide_eq_false c]
      rfl
theorem tv_f (St Sy : Int) (rules : List (List S52)) (hl : rules.length ≤ 100000000000000) (hr : ∀ r ∈ rules, r.length ≤ 100000000000000) : Ev (fun k => tape_Valid.f k St Sy rules) (okM St Sy rules) := by
  have hj : ∀ b, Ev (fun k => tape_Valid.j0 k b St Sy rules) (!b && rules.all (okRow St Sy)) := by
    intro b
    rw [Ev_succ]
    simp only [tape_Valid.j0, Ev_ite, Ev_some]
    cases b with
    | true => simp
    | false =>
      have := tv_rows St Sy rules hl hr rules.length 0 (by omega)
      simpa using this
  unfold tape_Valid.f okM
  simp only [Ev_ite]
  by_cases c : 1 ≤ St ∧ St ≤ 6 ∧ 2 ≤ Sy ∧ Sy ≤ 4
  · rw [if_neg (by omega), if_neg (by omega), if_neg (by omega), if_neg (by omega)]
    have := hj ((rules.length : Int) != St)
    by_cases e : (rules.length : Int) = St
    · rw [decide_eq_true ⟨c.1, c.2.1, c.2.2.1, c.2.2.2, e⟩]
      simpa [e] using this
    · rw [decide_eq_false (fun h => e h.2.2.2.2), Bool.false_and]
      have hb : ((rules.length : Int) != St) = true := by simp [e]
      rw [hb] at this ⊢
      simpa using this
  · have h := hj true
    rw [decide_eq_false (fun h => c ⟨h.1, h.2.1, h.2.2.1, h.2.2.2.1⟩), Bool.false_and]
    simp only [Bool.not_true, Bool.false_and] at h
    by_cases c0 : St < 1
    · rw [if_pos c0]; exact h
    rw [if_neg c0]
    by_cases c1 : St > 6
    · rw [if_pos c1]; exact h
    rw [if_neg c1]
    by_cases c2 : Sy < 2
    · rw [if_pos c2]; exact h
    rw [if_neg c2]
    by_cases c3 : Sy > 4
    · rw [if_pos c3]; exact h
    · exact absurd ⟨by omega, by omega, by omega, by omega⟩ c

theorem rv_row (St Sy : Int) (rules : List (List S52)) (j : Nat) (hj : j < rules.length) (B : Bool) (hS : ((rules[j].length : Nat) : Int) = Sy) (hr : rules[j].length ≤ 100000000000000) (hB : Ev (fun k => standstillref10_Valid.l0 k (wrap64 ((j : Int) + 1)) St Sy rules) B) : ∀ (d i : Nat), i + d = rules[j].length →
    Ev (fun k => standstillref10_Valid.l1 k (j : Int) (i : Int) St Sy rules) ((rules[j].drop i).all (okRb St Sy) && B) := by
  intro d
  induction d with
  | zero =>
    intro i hi
    rw [Ev_succ]
    simp only [standstillref10_Valid.l1, Ev_ite, Ev_some, Ev_none]
    rw [if_neg (by omega), List.drop_eq_nil_of_le (by omega)]
    simpa using hB
  | succ d ih =>
    intro i hi
    have hlt : i < rules[j].length := by omega
    have ih := ih (i + 1) (by omega)
    rw [drop_cons rules[j] i hlt, List.all_cons, Ev_succ]
    simp only [standstillref10_Valid.l1, Ev_ite, Ev_some, Ev_none]
    rw [if_pos (by omega), if_pos (by omega), if_pos (by omega), if_pos (by omega), rdL rules j hj, if_pos (by omega), rdT rules[j] i hlt, wrapn i (by omega)]
    generalize rules[j][i] = x
    obtain ⟨f0, f1, f2⟩ := x
    simp only
    by_cases hok : okR St Sy ⟨f0, f1, f2⟩
    · rw [okRb, decide_eq_true hok, Bool.true_and]
      obtain ⟨h0, h1, h2, h3, h4⟩ := hok
      simp only at h0 h1 h2 h3 h4
      rw [if_neg (by omega), if_neg (by omega)]
      rcases h2 with h2 | h2
      · rw [if_pos h2, if_neg (by omega), if_neg (by omega)]
        exact ih
      · rw [if_neg (by omega), if_pos h2, if_neg (by omega), if_neg (by omega)]
        exact ih
    · rw [okRb, decide_eq_false hok, Bool.false_and, Bool.false_and]
      simp only [okR] at hok
      by_cases c0 : f0 < 0
      · rw [if_pos c0]
      rw [if_neg c0]
      by_cases c1 : f0 ≥ Sy
      · rw [if_pos c1]
      rw [if_neg c1]
      by_cases c2 : f1 = -1
      · rw [if_pos c2]
        by_cases c3 : f2 < -1
        · rw [if_pos c3]
        rw [if_neg c3]
        by_cases c4 : f2 ≥ St
        · rw [if_pos c4]
        · exact absurd ⟨by omega, by omega, .inl c2, by omega, by omega⟩ hok
      rw [if_neg c2]
      by_cases c5 : f1 = 1
      · rw [if_pos c5]
        by_cases c3 : f2 < -1
        · rw [if_pos c3]
        rw [if_neg c3]
        by_cases c4 : f2 ≥ St
        · rw [if_pos c4]
        · exact absurd ⟨by omega, by omega, .inr c5, by omega, by omega⟩ hok
      · rw [if_neg c5]
theorem rv_rows (St Sy : Int) (rules : List (List S52)) (hSt : (rules.length : Int) = St) (hl : rules.length ≤ 100000000000000) (hr : ∀ r ∈ rules, r.length ≤ 100000000000000) : ∀ (d j : Nat), j + d = rules.length →
    Ev (fun k => standstillref10_Valid.l0 k (j : Int) St Sy rules) ((rules.drop j).all (okRow St Sy)) := by
  intro d
  induction d with
  | zero =>
    intro j hj
    rw [Ev_succ]
    simp only [standstillref10_Valid.l0, Ev_ite, Ev_some, Ev_none]
    rw [if_neg (by omega), List.drop_eq_nil_of_le (by omega)]
    rfl
  | succ d ih =>
    intro j hj
    have hlt : j < rules.length := by omega
    have ih := ih (j + 1) (by omega)
    rw [drop_cons rules j hlt, List.all_cons, Ev_succ]
    simp only [standstillref10_Valid.l0, Ev_ite, Ev_some, Ev_none]
    rw [if_pos (by omega), if_pos (by omega), if_pos (by omega), rdL rules j hlt]
    by_cases c : ((rules[j].length : Nat) : Int) = Sy
    · rw [if_pos c, okRow, decide_eq_true c, Bool.true_and]
      have := rv_row St Sy rules j hlt _ c (hr _ (List.getElem_mem hlt)) (by rw [wrapn j (by omega)]; exact ih) rules[j].length 0 (by omega)
      simpa using this
    · rw [if_neg c, okRow, decide_eq_false c]
      rfl
theorem rv_f (St Sy : Int) (rules : List (List S52)) (hl : rules.length ≤ 100000000000000) (hr : ∀ r ∈ rules, r.length ≤ 100000000000000) : Ev (fun k => standstillref10_Valid.f k St Sy rules) (okM St Sy rules) := by
  have hj0 : Ev (fun k => standstillref10_Valid.j0 k true St Sy rules) false := by
    rw [Ev_succ]
    simp [standstillref10_Valid.j0, Ev_ite, Ev_some]
  unfold standstillref10_Valid.f okM
  simp only [Ev_ite]
  by_cases c : 1 ≤ St ∧ St ≤ 6 ∧ 2 ≤ Sy ∧ Sy ≤ 4
  · rw [if_neg (by omega), if_neg (by omega), if_neg (by omega), if_neg (by omega)]
    by_cases e : (rules.length : Int) = St
    · rw [decide_eq_true ⟨c.1, c.2.1, c.2.2.1, c.2.2.2, e⟩, show ((rules.length : Int) != St) = false by simp [e], Ev_succ]
      simp only [standstillref10_Valid.j0, Ev_ite, Ev_some]
      rw [if_neg (by simp)]
      have := rv_rows St Sy rules e hl hr rules.length 0 (by omega)
      simpa using this
    · rw [decide_eq_false (fun h => e h.2.2.2.2), show ((rules.length : Int) != St) = true by simp [e]]
      exact hj0
  · rw [decide_eq_false (fun h => c ⟨h.1, h.2.1, h.2.2.1, h.2.2.2.1⟩), Bool.false_and]
    by_cases c0 : St < 1
    · rw [if_pos c0]; exact hj0
    rw [if_neg c0]
    by_cases c1 : St > 6
    · rw [if_pos c1]; exact hj0
    rw [if_neg c1]
    by_cases c2 : Sy < 2
    · rw [if_pos c2]; exact hj0
    rw [if_neg c2]
    by_cases c3 : Sy > 4
    · rw [if_pos c3]; exact hj0
    · exact absurd ⟨by omega, by omega, by omega, by omega⟩ c

/-- The mirrored machine. -/
def mir (r : S52) : S52 := ⟨r.f0, wrap64 (-r.f1), r.f2⟩
def mirM (l : List (List S52)) : List (List S52) := l.map (·.map mir)
theorem tm_row (rules acc : List (List S52)) (row : List S52) (j : Nat) (x y : Int) (R : Int × Int × List (List S52) × Int) (hr : row.length ≤ 100000000000000) (ha : acc.length < 5864062014805)
    (hB : Ev (fun k => tape_Mirror.l0 k rules (rules.length : Int) (wrap64 ((j : Int) + 1)) x y (acc ++ [row.map mir])) R) : ∀ (d i : Nat), i + d = row.length →
    Ev (fun k => tape_Mirror.l1 k ((row.take i).map mir ++ row.drop i) rules (rules.length : Int) (j : Int) (row.length : Int) (i : Int) x y acc) R := by
  intro d
  induction d with
  | zero =>
    intro i hi
    rw [Ev_succ]
    simp only [tape_Mirror.l1, Ev_ite, Ev_some, Ev_none]
    rw [if_neg (by omega), if_pos ha, List.drop_eq_nil_of_le (by omega), List.take_of_length_le (by omega), List.append_nil]
    exact hB
  | succ d ih =>
    intro i hi
    have hlt : i < row.length := by omega
    have ih := ih (i + 1) (by omega)
    have hA : ((row.take i).map mir).length = i := by simp; omega
    rw [Ev_succ]
    simp only [tape_Mirror.l1, Ev_ite, Ev_some, Ev_none]
    have hlen : ((row.take i).map mir ++ row.drop i).length = row.length := by simp; omega
    rw [if_pos (by omega), if_pos (by omega), if_pos (by rw [hlen]; omega), wrapn i (by omega), rdT _ i (by rw [hlen]; exact hlt)]
    have hget : ((row.take i).map mir ++ row.drop i)[i]'(by rw [hlen]; exact hlt) = row[i] := by
      rw [List.getElem_append_right (by omega), List.getElem_drop]
      congr 1
      omega
    rw [hget, Int.toNat_natCast, List.set_append_right _ _ (by omega), hA, Nat.sub_self, drop_cons row i hlt, List.set_cons_zero]
    rw [take_snoc row i hlt, List.map_append, List.append_assoc] at ih
    exact ih
theorem tm_rows (rules : List (List S52)) (x y : Int) (hl : rules.length ≤ 1000000) (hr : ∀ r ∈ rules, r.length ≤ 1000000) : ∀ (d j : Nat), j + d = rules.length →
    Ev (fun k => tape_Mirror.l0 k rules (rules.length : Int) (j : Int) x y (mirM (rules.take j))) (x, y, mirM rules, 0) := by
  intro d
  induction d with
  | zero =>
    intro j hj
    rw [Ev_succ]
    simp only [tape_Mirror.l0, Ev_ite, Ev_some, Ev_none]
    rw [if_neg (by omega), List.take_of_length_le (by omega)]
  | succ d ih =>
    intro j hj
    have hlt : j < rules.length := by omega
    have ih := ih (j + 1) (by omega)
    rw [Ev_succ]
    simp only [tape_Mirror.l0, Ev_ite, Ev_some, Ev_none]
    rw [if_pos (by omega), if_pos (by omega), if_pos (by omega), rdL rules j hlt]
    have h1 := hr _ (List.getElem_mem hlt)
    rw [Ev_bind (a := rules[j]) (by unfold api_Rule.f; rw [if_pos (by omega)]; exact Ev.now _)]
    have e : mirM (rules.take (j + 1)) = mirM (rules.take j) ++ [rules[j].map mir] := by rw [take_snoc rules j hlt]; simp only [mirM, List.map_append, List.map_cons, List.map_nil]
    rw [e] at ih
    have := tm_row rules (mirM (rules.take j)) rules[j] j x y _ (by omega) (by unfold mirM; simp; omega) (by rw [wrapn j (by omega)]; exact ih) rules[j].length 0 (by omega)
    simpa using this
theorem okM_len {St Sy : Int} {rules : List (List S52)} (h : okM St Sy rules = true) : 1 ≤ St ∧ St ≤ 6 ∧ 2 ≤ Sy ∧ Sy ≤ 4 ∧ (rules.length : Int) = St ∧ ∀ r ∈ rules, (r.length : Int) = Sy ∧ ∀ x ∈ r, okR St Sy x := by
  unfold okM at h
  simp only [Bool.and_eq_true, decide_eq_true_eq, List.all_eq_true] at h
  refine ⟨h.1.1, h.1.2.1, h.1.2.2.1, h.1.2.2.2.1, h.1.2.2.2.2, fun r hr => ?_⟩
  have := h.2 r hr
  simp only [okRow, okRb, Bool.and_eq_true, decide_eq_true_eq, List.all_eq_true] at this
  exact this
theorem mir_neg {St Sy : Int} {r : S52} (h : okR St Sy r) : mir r = ⟨r.f0, -r.f1, r.f2⟩ := by
  unfold mir
  rw [wrap_id (by rcases h.2.2.1 with e | e <;> omega) (by rcases h.2.2.1 with e | e <;> omega)]
theorem okM_mir {St Sy : Int} {rules : List (List S52)} (h : okM St Sy rules = true) : okM St Sy (mirM rules) = true := by
  obtain ⟨h1, h2, h3, h4, h5, h6⟩ := okM_len h
  unfold okM mirM
  simp only [Bool.and_eq_true, decide_eq_true_eq, List.all_eq_true, List.length_map]
  refine ⟨⟨h1, h2, h3, h4, h5⟩, fun r hr => ?_⟩
  obtain ⟨r0, hr0, rfl⟩ := List.mem_map.1 hr
  obtain ⟨h7, h8⟩ := h6 r0 hr0
  simp only [okRow, okRb, Bool.and_eq_true, decide_eq_true_eq, List.all_eq_true, List.length_map]
  refine ⟨h7, fun x hx => ?_⟩
  obtain ⟨x0, hx0, rfl⟩ := List.mem_map.1 hx
  have h9 := h8 x0 hx0
  rw [mir_neg h9]
  obtain ⟨g0, g1, g2, g3, g4⟩ := h9
  exact ⟨g0, g1, by simp only; omega, g3, g4⟩
theorem mirM_mirM {St Sy : Int} {rules : List (List S52)} (h : okM St Sy rules = true) : mirM (mirM rules) = rules := by
  obtain ⟨_, _, _, _, _, h6⟩ := okM_len h
  unfold mirM
  rw [List.map_map]
  conv => rhs; rw [← List.map_id rules]
  refine List.map_congr_left fun r hr => ?_
  simp only [Function.comp, List.map_map, id]
  conv => rhs; rw [← List.map_id r]
  refine List.map_congr_left fun x hx => ?_
  have h9 := (h6 r hr).2 x hx
  simp only [Function.comp, id, mir_neg h9]
  obtain ⟨f0, f1, f2⟩ := x
  have := h9.2.2.1
  simp only at this
  unfold mir
  simp only
  rw [wrap_id (by omega) (by omega), Int.neg_neg]
theorem tm_f {St Sy : Int} {rules : List (List S52)} (h : okM St Sy rules = true) : Ev (fun k => tape_Mirror.f k St Sy rules) (St, Sy, mirM rules, 0) := by
  obtain ⟨h1, h2, h3, h4, h5, h6⟩ := okM_len h
  unfold tape_Mirror.f
  rw [Ev_bind (tv_f St Sy rules (by omega) (fun r hr => by have := (h6 r hr).1; omega)), h]
  simp only [if_true]
  have := tm_rows rules St Sy (by omega) (fun r hr => by have := (h6 r hr).1; omega) rules.length 0 (by omega)
  simpa [mirM] using this

theorem rm_row (rules acc : List (List S52)) (j : Nat) (hj : j < rules.length) (x y u v : Int) (R : Int × Int × List (List S52)) (hr : rules[j].length ≤ 1000000) (ha : acc.length < 5864062014805)
    (hB : Ev (fun k => standstillref10_Mirror.l0 k (wrap64 ((j : Int) + 1)) x y rules u v (acc ++ [rules[j].map mir])) R) : ∀ (d i : Nat), i + d = rules[j].length →
    Ev (fun k => standstillref10_Mirror.l1 k (j : Int) ((rules[j].take i).map mir) (i : Int) x y rules u v acc) R := by
  intro d
  induction d with
  | zero =>
    intro i hi
    rw [Ev_succ]
    simp only [standstillref10_Mirror.l1, Ev_ite, Ev_some, Ev_none]
    rw [if_pos (by omega), if_pos (by omega), rdL rules j hj, if_neg (by omega), if_pos ha, List.take_of_length_le (by omega)]
    exact hB
  | succ d ih =>
    intro i hi
    have hlt : i < rules[j].length := by omega
    have ih := ih (i + 1) (by omega)
    rw [Ev_succ]
    simp only [standstillref10_Mirror.l1, Ev_ite, Ev_some, Ev_none]
    rw [if_pos (by omega), if_pos (by omega), rdL rules j hj, if_pos (by omega), if_pos (by omega), if_pos (by simp; omega), wrapn i (by omega), rdT rules[j] i hlt]
    rw [take_snoc rules[j] i hlt, List.map_append] at ih
    exact ih
theorem rm_rows (rules : List (List S52)) (x y u v : Int) (hl : rules.length ≤ 1000000) (hr : ∀ r ∈ rules, r.length ≤ 1000000) : ∀ (d j : Nat), j + d = rules.length →
    Ev (fun k => standstillref10_Mirror.l0 k (j : Int) x y rules u v (mirM (rules.take j))) (u, v, mirM rules) := by
  intro d
  induction d with
  | zero =>
    intro j hj
    rw [Ev_succ]
    simp only [standstillref10_Mirror.l0, Ev_ite, Ev_some, Ev_none]
    rw [if_neg (by omega), List.take_of_length_le (by omega)]
  | succ d ih =>
    intro j hj
    have hlt : j < rules.length := by omega
    have ih := ih (j + 1) (by omega)
    rw [Ev_succ]
    simp only [standstillref10_Mirror.l0, Ev_ite, Ev_some, Ev_none]
    rw [if_pos (by omega)]
    have h1 := hr _ (List.getElem_mem hlt)
    have e : mirM (rules.take (j + 1)) = mirM (rules.take j) ++ [rules[j].map mir] := by rw [take_snoc rules j hlt]; simp only [mirM, List.map_append, List.map_cons, List.map_nil]
    rw [e] at ih
    have := rm_row rules (mirM (rules.take j)) j hlt x y u v _ h1 (by unfold mirM; simp; omega) (by rw [wrapn j (by omega)]; exact ih) rules[j].length 0 (by omega)
    simpa using this
theorem rm_f {St Sy : Int} {rules : List (List S52)} (h : okM St Sy rules = true) : Ev (fun k => standstillref10_Mirror.f k St Sy rules) (St, Sy, mirM rules) := by
  obtain ⟨h1, h2, h3, h4, h5, h6⟩ := okM_len h
  unfold standstillref10_Mirror.f
  have := rm_rows rules St Sy St Sy (by omega) (fun r hr => by have := (h6 r hr).1; omega) rules.length 0 (by omega)
  simpa [mirM] using this

/-! The run of a machine, without memory: what both texts come to. -/
structure Cf where
  st : Int
  po : Int
  tp : Int → Int
def Cf.new : Cf := ⟨0, 0, fun _ => 0⟩
def ruleOf (rules : List (List S52)) (c : Cf) : S52 := rd_T52 (rd_L2 rules c.st) (c.tp c.po)
def cstep (rules : List (List S52)) (c : Cf) : Cf := ⟨(ruleOf rules c).f2, c.po + (ruleOf rules c).f1, fun x => if x = c.po then (ruleOf rules c).f0 else c.tp x⟩
def crun (rules : List (List S52)) : Nat → Cf → Cf
  | 0, c => c
  | n + 1, c => if c.st = -1 then c else crun rules n (cstep rules c)
def clow (rules : List (List S52)) : Nat → Cf → Int → Cf × Int
  | 0, c, low => (c, low)
  | n + 1, c, low => if c.st = -1 then clow rules n c (mn low c.po) else clow rules n (cstep rules c) (mn low (cstep rules c).po)
/-- What holds of a run's state. -/
def okC (St Sy : Int) (c : Cf) : Prop := -1 ≤ c.st ∧ c.st < St ∧ ∀ x, 0 ≤ c.tp x ∧ c.tp x < Sy
theorem okC_new {St Sy : Int} {rules : List (List S52)} (h : okM St Sy rules = true) : okC St Sy Cf.new := by
  obtain ⟨h1, h2, h3, h4, h5, h6⟩ := okM_len h
  exact ⟨by show (-1 : Int) ≤ 0; omega, by show (0 : Int) < St; omega, fun x => ⟨Int.le_refl _, by show (0 : Int) < Sy; omega⟩⟩
theorem rule_ok {St Sy : Int} {rules : List (List S52)} (h : okM St Sy rules = true) {c : Cf} (hc : okC St Sy c) (hs : c.st ≠ -1) :
    0 ≤ c.st ∧ c.st < (rules.length : Int) ∧ ((rd_L2 rules c.st).length : Int) = Sy ∧ okR St Sy (ruleOf rules c) := by
  obtain ⟨h1, h2, h3, h4, h5, h6⟩ := okM_len h
  obtain ⟨c0, c1, c2⟩ := hc
  obtain ⟨i, hi⟩ := Int.eq_ofNat_of_zero_le (show 0 ≤ c.st by omega)
  obtain ⟨j, hj⟩ := Int.eq_ofNat_of_zero_le (c2 c.po).1
  have hlt : i < rules.length := by omega
  have h7 := h6 _ (List.getElem_mem hlt)
  have hjl : j < (rules[i]).length := by have := (c2 c.po).2; omega
  have e : rd_L2 rules c.st = rules[i] := by rw [hi]; exact rdL rules i hlt
  refine ⟨by omega, by omega, by rw [e]; exact h7.1, ?_⟩
  unfold ruleOf
  rw [e, hj, rdT _ j hjl]
  exact h7.2 _ (List.getElem_mem hjl)
theorem okC_step {St Sy : Int} {rules : List (List S52)} (h : okM St Sy rules = true) {c : Cf} (hc : okC St Sy c) (hs : c.st ≠ -1) : okC St Sy (cstep rules c) := by
  obtain ⟨_, _, _, g0, g1, g2, g3, g4⟩ := rule_ok h hc hs
  refine ⟨g3, g4, fun x => ?_⟩
  show 0 ≤ (if x = c.po then (ruleOf rules c).f0 else c.tp x) ∧ (if x = c.po then (ruleOf rules c).f0 else c.tp x) < Sy
  split
  · exact ⟨g0, g1⟩
  · exact hc.2.2 x
theorem rd_oob (l : List Int) (x : Int) (h : (l.length : Int) ≤ x) : rd l x = 0 := by
  unfold rd
  rw [List.getD, List.getElem?_eq_none (by omega)]
  rfl
theorem rd_rep (n : Nat) (x : Int) : rd (List.replicate n 0) x = 0 := by
  unfold rd
  rw [List.getD, List.getElem?_replicate]
  split <;> rfl
theorem rd_app_l (l r : List Int) (x : Int) (h0 : 0 ≤ x) (h : x < (l.length : Int)) : rd (l ++ r) x = rd l x := by
  unfold rd
  rw [List.getD, List.getD, List.getElem?_append_left (by omega)]
theorem rd_app_r (l r : List Int) (x : Int) (h : (l.length : Int) ≤ x) : rd (l ++ r) x = rd r (x - l.length) := by
  unfold rd
  rw [List.getD, List.getD, List.getElem?_append_right (by omega)]
  congr 2
  omega
theorem rd_set (l : List Int) (i : Nat) (v x : Int) (hi : i < l.length) (h0 : 0 ≤ x) : rd (l.set i v) x = if x = (i : Int) then v else rd l x := by
  unfold rd
  rw [List.getD, List.getD, List.getElem?_set]
  by_cases e : x = (i : Int)
  · subst e
    simp [hi]
  · rw [if_neg (by omega), if_neg e]
/-! runner.Runner -/
def SI (n : Nat) (s : RS) : Prop :=
  -(n : Int) ≤ s.po ∧ s.po ≤ n ∧ -(n : Int) ≤ s.on ∧ s.on ≤ n ∧ 16 ≤ s.cells.length ∧ -s.fr ≤ n + 8 + (s.cells.length : Int) / 2 ∧ s.fr + s.cells.length ≤ n + 8 + (s.cells.length : Int) / 2 ∧ (s.cells.length : Int) ≤ 8 * n + 32 ∧ s.fr - 1 ≤ s.po ∧ s.po ≤ s.fr + s.cells.length ∧ s.fr ≤ 0
def SR (s : RS) (c : Cf) : Prop := s.st = c.st ∧ s.po = c.po ∧ ∀ x, s.at_ x = c.tp x
theorem SI_new : SI 0 RS.new := by
  unfold SI RS.new
  simp
theorem SI_mono {n m : Nat} {s : RS} (h : SI n s) (hm : n ≤ m) : SI m s := by
  obtain ⟨a, b, c, d, e, f, g, i, j, k, l⟩ := h
  exact ⟨by omega, by omega, by omega, by omega, e, by omega, by omega, by omega, j, k, l⟩
theorem SR_new : SR RS.new Cf.new := by
  refine ⟨rfl, rfl, fun x => ?_⟩
  unfold RS.at_ RS.new
  simp only
  split
  · exact rd_rep _ _
  · rfl
theorem room_at (s : RS) (h1 : s.fr - 1 ≤ s.po) (h2 : s.po ≤ s.fr + s.cells.length) (h3 : 0 < s.cells.length) : (∀ x, s.room.at_ x = s.at_ x) ∧ 0 ≤ s.room.po - s.room.fr ∧ s.room.po - s.room.fr < (s.room.cells.length : Int) := by
  unfold RS.room
  by_cases c1 : s.po - s.fr < 0
  · rw [if_pos c1]
    refine ⟨fun x => ?_, by simp only; omega, by simp; omega⟩
    unfold RS.at_
    simp only [List.length_append, List.length_replicate]
    by_cases c : 0 ≤ x - s.fr ∧ x - s.fr < (s.cells.length : Int)
    · rw [if_pos (by omega), if_pos c, rd_app_r _ _ _ (by simp; omega), List.length_replicate]
      congr 1
      omega
    · rw [if_neg c]
      split
      · rename_i hc
        rw [rd_app_l _ _ _ (by omega) (by simp; omega), rd_rep]
      · rfl
  · rw [if_neg c1]
    by_cases c2 : s.po - s.fr ≥ (s.cells.length : Int)
    · rw [if_pos c2]
      refine ⟨fun x => ?_, by simp only; omega, by simp; omega⟩
      unfold RS.at_
      simp only [List.length_append, List.length_replicate]
      by_cases c : 0 ≤ x - s.fr ∧ x - s.fr < (s.cells.length : Int)
      · rw [if_pos (by omega), if_pos c, rd_app_l _ _ _ c.1 c.2]
      · rw [if_neg c]
        split
        · rename_i hc
          rw [rd_app_r _ _ _ (by omega), rd_rep]
        · rfl
    · rw [if_neg c2]
      exact ⟨fun x => rfl, by omega, by omega⟩
theorem room_SI {n : Nat} {s : RS} (h : SI n s) : -(s.room.fr) ≤ n + 8 + (s.room.cells.length : Int) / 2 ∧ s.room.fr + s.room.cells.length ≤ n + 8 + (s.room.cells.length : Int) / 2 ∧ (s.room.cells.length : Int) ≤ 8 * n + 32 ∧ 16 ≤ s.room.cells.length ∧ s.room.fr ≤ 0 := by
  obtain ⟨a, b, c, d, e, f, g, i, j, k, l⟩ := h
  unfold RS.room
  by_cases c1 : s.po - s.fr < 0
  · rw [if_pos c1]
    simp only [List.length_append, List.length_replicate]
    omega
  · rw [if_neg c1]
    by_cases c2 : s.po - s.fr ≥ (s.cells.length : Int)
    · rw [if_pos c2]
      simp only [List.length_append, List.length_replicate]
      omega
    · rw [if_neg c2]
      omega
theorem mn1 {x : Int} (h : 0 ≤ x) : 0 ≤ mn x 1 ∧ mn x 1 ≤ 1 := by unfold mn; split <;> omega
theorem rs_step {St Sy : Int} {rules : List (List S52)} (hM : okM St Sy rules = true) {n : Nat} {s : RS} {c : Cf} (hn : n ≤ 10000000) (hI : SI n s) (hR : SR s c) (hc : okC St Sy c) :
    if c.st = -1 then RS.step rules s = some (s, false) else ∃ s', RS.step rules s = some (s', true) ∧ SI (n + 1) s' ∧ SR s' (cstep rules c) := by
  obtain ⟨r1, r2, r3⟩ := hR
  by_cases hs : c.st = -1
  · rw [if_pos hs]
    unfold RS.step
    rw [if_pos (by omega)]
  rw [if_neg hs]
  obtain ⟨k0, k1, k2, k3⟩ := rule_ok hM hc hs
  have hRI := room_SI hI
  obtain ⟨a, b, c1, d, e, f, g, i, j, k, l⟩ := hI
  obtain ⟨q1, q2, q3⟩ := room_at s j k (by omega)
  obtain ⟨p1, p2, p3, p4⟩ := RS.room_same s
  have hx : rd s.room.cells (s.room.po - s.room.fr) = c.tp c.po := by
    have := q1 s.po
    rw [r3, r2] at this
    rw [← this]
    unfold RS.at_
    rw [p3] at q2 q3 ⊢
    rw [r2] at q2 q3 ⊢
    rw [if_pos ⟨q2, q3⟩]
  have hok : s.ok := ⟨by omega, by omega, by omega, by omega, by omega, by omega, by omega⟩
  unfold RS.step
  rw [if_neg (by omega), if_pos ⟨hok, q2, q3, by omega, by omega⟩, hx, r1, if_pos ⟨(hc.2.2 c.po).1, by rw [k2]; exact (hc.2.2 c.po).2⟩]
  have hrule : rd_T52 (rd_L2 rules c.st) (c.tp c.po) = ruleOf rules c := rfl
  rw [hrule]
  obtain ⟨g0, g1, g2, g3, g4⟩ := k3
  rw [if_pos ⟨g0, by omega, by omega⟩]
  have m0 := mn1 g0
  have m1 := mn1 (hc.2.2 c.po).1
  refine ⟨_, rfl, ?_, rfl, by show s.po + _ = c.po + _; rw [r2], fun x => ?_⟩
  · unfold SI
    simp only [List.length_set]
    rw [p3] at q2 q3
    obtain ⟨z1, z2, z3, z4, z5⟩ := hRI
    omega
  · show RS.at_ ⟨_, _, _, _, _⟩ x = if x = c.po then _ else c.tp x
    have hq := q1 x
    rw [r3] at hq
    rw [← hq]
    unfold RS.at_
    simp only [List.length_set]
    rw [p3, r2] at q2 q3 ⊢
    by_cases hxp : x = c.po
    · subst hxp
      rw [if_pos ⟨q2, q3⟩, if_pos rfl, rd_set _ _ _ _ (by omega) q2, if_pos (by omega)]
    · rw [if_neg hxp]
      split
      · rename_i hh
        rw [rd_set _ _ _ _ (by omega) hh.1, if_neg (by omega)]
      · rfl
theorem rs_run {St Sy : Int} {rules : List (List S52)} (hM : okM St Sy rules = true) : ∀ (m n : Nat) (s : RS) (c : Cf) (i : Int), n + m ≤ 10000000 → SI n s → SR s c → okC St Sy c →
    ∃ s' i', RS.run rules m i s = some (s', i') ∧ SI (n + m) s' ∧ SR s' (crun rules m c) ∧ okC St Sy (crun rules m c) := by
  intro m
  induction m with
  | zero => intro n s c i _ hI hR hc; exact ⟨s, i, rfl, hI, hR, hc⟩
  | succ m ih =>
    intro n s c i hn hI hR hc
    have h := rs_step hM (by omega) hI hR hc
    by_cases hs : c.st = -1
    · rw [if_pos hs] at h
      have e : crun rules (m + 1) c = c := by simp only [crun]; rw [if_pos hs]
      refine ⟨s, i, by simp [RS.run, h], SI_mono hI (by omega), by rw [e]; exact hR, by rw [e]; exact hc⟩
    · rw [if_neg hs] at h
      obtain ⟨s1, h1, h2, h3⟩ := h
      obtain ⟨s', i', h4, h5, h6, h7⟩ := ih (n + 1) s1 (cstep rules c) (i + 1) (by omega) h2 h3 (okC_step hM hc hs)
      have e : crun rules (m + 1) c = crun rules m (cstep rules c) := by simp only [crun]; rw [if_neg hs]
      refine ⟨s', i', by simp [RS.run, h1, h4], by rw [show n + (m + 1) = n + 1 + m by omega]; exact h5, by rw [e]; exact h6, by rw [e]; exact h7⟩
theorem rs_low {St Sy : Int} {rules : List (List S52)} (hM : okM St Sy rules = true) : ∀ (m n : Nat) (s : RS) (c : Cf) (low : Int), n + m ≤ 10000000 → SI n s → SR s c → okC St Sy c →
    ∃ s', RS.lowrun rules m s low = some (s', (clow rules m c low).2) ∧ SI (n + m) s' ∧ SR s' (clow rules m c low).1 := by
  intro m
  induction m with
  | zero => intro n s c low _ hI hR hc; exact ⟨s, rfl, hI, hR⟩
  | succ m ih =>
    intro n s c low hn hI hR hc
    have h := rs_step hM (by omega) hI hR hc
    by_cases hs : c.st = -1
    · rw [if_pos hs] at h
      obtain ⟨s', h4, h5, h6⟩ := ih n s c (mn low c.po) (by omega) hI hR hc
      have e : clow rules (m + 1) c low = clow rules m c (mn low c.po) := by simp only [clow]; rw [if_pos hs]
      rw [e]
      refine ⟨s', by simp only [RS.lowrun, h, Option.bind_some]; rw [hR.2.1]; exact h4, SI_mono h5 (by omega), h6⟩
    · rw [if_neg hs] at h
      obtain ⟨s1, h1, h2, h3⟩ := h
      obtain ⟨s', h4, h5, h6⟩ := ih (n + 1) s1 (cstep rules c) (mn low (cstep rules c).po) (by omega) h2 h3 (okC_step hM hc hs)
      have e : clow rules (m + 1) c low = clow rules m (cstep rules c) (mn low (cstep rules c).po) := by simp only [clow]; rw [if_neg hs]
      rw [e]
      refine ⟨s', by simp only [RS.lowrun, h1, Option.bind_some]; rw [h3.2.1]; exact h4, by rw [show n + (m + 1) = n + 1 + m by omega]; exact h5, h6⟩
theorem SI_sane {n : Nat} {s : RS} (h : SI n s) (hn : n ≤ 10000000) : s.sane := by
  obtain ⟨a, b, c, d, e, f, g, i, j, k, l⟩ := h
  exact ⟨by omega, by omega, by omega, by omega, by omega⟩
theorem clow_low (rules : List (List S52)) : ∀ (m : Nat) (c : Cf) (low : Int), (clow rules m c low).2 ≤ low := by
  intro m
  induction m with
  | zero => intro c low; exact Int.le_refl _
  | succ m ih =>
    intro c low
    simp only [clow]
    split
    · exact Int.le_trans (ih _ _) (by unfold mn; split <;> omega)
    · exact Int.le_trans (ih _ _) (by unfold mn; split <;> omega)
theorem clow_ge {St Sy : Int} {rules : List (List S52)} (hM : okM St Sy rules = true) : ∀ (m : Nat) (c : Cf) (low B : Int), okC St Sy c → B ≤ low → B ≤ c.po → B - m ≤ (clow rules m c low).2 := by
  intro m
  induction m with
  | zero => intro c low B _ h _; show B - (0 : Nat) ≤ low; omega
  | succ m ih =>
    intro c low B hc h h2
    simp only [clow]
    by_cases hs : c.st = -1
    · rw [if_pos hs]
      have := ih c (mn low c.po) B hc (by unfold mn; split <;> omega) h2
      omega
    · rw [if_neg hs]
      obtain ⟨_, _, _, g0, g1, g2, g3, g4⟩ := rule_ok hM hc hs
      have hp : B - 1 ≤ (cstep rules c).po := by show B - 1 ≤ c.po + _; omega
      have := ih (cstep rules c) (mn low (cstep rules c).po) (B - 1) (okC_step hM hc hs) (by unfold mn; split <;> omega) hp
      omega
theorem clow_run (rules : List (List S52)) : ∀ (m : Nat) (c : Cf) (low : Int), (clow rules m c low).1 = crun rules m c := by
  intro m
  induction m with
  | zero => intro c low; rfl
  | succ m ih =>
    intro c low
    simp only [clow, crun]
    by_cases hs : c.st = -1
    · rw [if_pos hs, if_pos hs, ih]
      cases m with
      | zero => rfl
      | succ m => simp only [crun]; rw [if_pos hs]
    · rw [if_neg hs, if_neg hs, ih]
theorem alikeS (a b : RS) (d : Int) : ∀ (n : Nat) (x : Int), RS.alikeGo a b d n x = true ↔ ∀ y, x ≤ y → y < x + n → a.at_ y = b.at_ (y + d) := by
  intro n
  induction n with
  | zero => intro x; simp only [RS.alikeGo, true_iff]; intro y h1 h2; omega
  | succ n ih =>
    intro x
    simp only [RS.alikeGo]
    by_cases e : a.at_ x = b.at_ (x + d)
    · rw [if_pos e, ih]
      constructor
      · intro h y h1 h2
        by_cases ey : y = x
        · rw [ey]; exact e
        · exact h y (by omega) (by omega)
      · intro h y h1 h2
        exact h y (by omega) (by omega)
    · rw [if_neg e]
      constructor
      · intro h; cases h
      · intro h; exact absurd (h x (by omega) (by omega)) e
/-- (a, b) is a loop on the right side. -/
def LoopR (rules : List (List S52)) (a b : Nat) : Prop :=
  (crun rules (b - a) (crun rules a Cf.new)).st ≠ -1 ∧ (crun rules a Cf.new).st = (crun rules (b - a) (crun rules a Cf.new)).st ∧ 0 ≤ (crun rules (b - a) (crun rules a Cf.new)).po - (crun rules a Cf.new).po ∧
    ∀ x, (clow rules (b - a) (crun rules a Cf.new) (crun rules a Cf.new).po).2 ≤ x → (crun rules a Cf.new).tp x = (crun rules (b - a) (crun rules a Cf.new)).tp (x + ((crun rules (b - a) (crun rules a Cf.new)).po - (crun rules a Cf.new).po))
theorem right_f {St Sy : Int} {rules : List (List S52)} (hM : okM St Sy rules = true) (a b : Nat) (hab : a ≤ b) (hb : b ≤ 5000000) : ∃ r, loop_right.f St Sy rules a b = some r ∧ (r = true ↔ LoopR rules a b) := by
  obtain ⟨sc, ic, h1, h2, h3, h4⟩ := rs_run hM a 0 RS.new Cf.new 0 (by omega) SI_new SR_new (okC_new hM)
  obtain ⟨sd, k1, k2, k3⟩ := rs_low hM (b - a) (0 + a) sc (crun rules a Cf.new) sc.po (by omega) h2 h3 h4
  have hge := clow_ge hM (b - a) (crun rules a Cf.new) sc.po (-(a : Int)) h4 (by have := h2.1; omega) (by have := h2.1; rw [← h3.2.1]; omega)
  rw [clow_run] at k3
  have hsc := SI_sane h2 (by omega)
  have hsd := SI_sane k2 (by omega)
  refine ⟨(decide (sd.st ≠ -1) && (decide (sc.st = sd.st) && (decide (0 ≤ sd.po - sc.po) && RS.alikeGo sc sd (sd.po - sc.po) (RS.last sc sd (sd.po - sc.po) + 1 - (clow rules (b - a) (crun rules a Cf.new) sc.po).2).toNat (clow rules (b - a) (crun rules a Cf.new) sc.po).2))), ?_, ?_⟩
  · unfold loop_right.f
    rw [if_pos ⟨by omega, by omega, by omega⟩, Int.toNat_natCast, h1]
    simp only [Option.bind_some]
    rw [if_pos hsc, show ((b : Int) - (a : Int)).toNat = b - a by omega, k1]
    simp only [Option.bind_some]
    rw [if_pos ⟨hsd, by omega⟩]
  · unfold LoopR
    rw [← h3.1, ← k3.1, ← h3.2.1, ← k3.2.1]
    simp only [Bool.and_eq_true, decide_eq_true_eq]
    constructor
    · rintro ⟨e1, e2, e3, e4⟩
      refine ⟨e1, e2, e3, fun x hx => ?_⟩
      rw [alikeS] at e4
      rw [← h3.2.2, ← k3.2.2]
      by_cases hl : x ≤ RS.last sc sd (sd.po - sc.po)
      · exact e4 x hx (by omega)
      · unfold RS.last at hl
        have hm : sc.fr + (sc.cells.length : Int) - 1 < x ∧ sd.fr + (sd.cells.length : Int) - 1 - (sd.po - sc.po) < x := by unfold mx at hl; split at hl <;> omega
        unfold RS.at_
        rw [if_neg (by omega), if_neg (by omega)]
    · rintro ⟨e1, e2, e3, e4⟩
      refine ⟨e1, e2, e3, ?_⟩
      rw [alikeS]
      intro y hy _
      have := e4 y hy
      rwa [← h3.2.2, ← k3.2.2] at this

/-! standstillref10.Run -/
def TI (n : Nat) (s : RR) : Prop :=
  -(n : Int) ≤ s.po ∧ s.po ≤ n ∧ s.rt.length ≤ n + 1 ∧ s.lf.length ≤ n + 1 ∧ 0 ≤ s.k ∧ s.k ≤ n
def TR (s : RR) (c : Cf) : Prop := s.st = c.st ∧ s.po = c.po ∧ ∀ x, s.at_ x = c.tp x
theorem TI_mono {n m : Nat} {s : RR} (h : TI n s) (hm : n ≤ m) : TI m s := by
  obtain ⟨a, b, c, d, e, f⟩ := h
  exact ⟨by omega, by omega, by omega, by omega, e, by omega⟩
theorem TR_new : TR RR.new Cf.new := by
  refine ⟨rfl, rfl, fun x => ?_⟩
  unfold RR.at_ RR.new
  simp only [List.length_nil]
  split
  · rw [if_neg (by omega)]; rfl
  · rw [if_neg (by omega)]; rfl
theorem pad_len (l : List Int) (n : Nat) : (RR.pad l n).length = max l.length n := by
  unfold RR.pad
  simp
  omega
theorem pad_rd (l : List Int) (n : Nat) (x : Int) (h0 : 0 ≤ x) : rd (RR.pad l n) x = if x < (l.length : Int) then rd l x else 0 := by
  unfold RR.pad
  split
  · rename_i h
    exact rd_app_l _ _ _ h0 h
  · rw [rd_app_r _ _ _ (by omega), rd_rep]
theorem put_at (s : RR) (v x : Int) : (s.put v).at_ x = if x = s.po then v else s.at_ x := by
  unfold RR.put
  by_cases c : 0 ≤ s.po
  · rw [if_pos c]
    unfold RR.at_
    simp only [List.length_set]
    by_cases hx : 0 ≤ x
    · rw [if_pos hx, if_pos hx]
      by_cases e : x = s.po
      · rw [if_pos e, if_pos (by rw [pad_len]; omega), rd_set _ _ _ _ (by rw [pad_len]; omega) hx, if_pos (by omega)]
      · rw [if_neg e]
        by_cases hl : x < ((RR.pad s.rt (s.po.toNat + 1)).length : Int)
        · rw [if_pos hl, rd_set _ _ _ _ (by rw [pad_len]; omega) hx, if_neg (by omega), pad_rd _ _ _ hx]
        · rw [if_neg hl, if_neg (by rw [pad_len] at hl; omega)]
    · rw [if_neg hx, if_neg hx, if_neg (show ¬ x = s.po by omega)]
  · rw [if_neg c]
    unfold RR.at_
    simp only [List.length_set]
    by_cases hx : 0 ≤ x
    · rw [if_pos hx, if_pos hx, if_neg (show ¬ x = s.po by omega)]
    · rw [if_neg hx, if_neg hx]
      by_cases e : x = s.po
      · rw [if_pos e, if_pos (by rw [pad_len]; omega), rd_set _ _ _ _ (by rw [pad_len]; omega) (by omega), if_pos (by omega)]
      · rw [if_neg e]
        by_cases hl : -1 - x < ((RR.pad s.lf ((-1 - s.po).toNat + 1)).length : Int)
        · rw [if_pos hl, rd_set _ _ _ _ (by rw [pad_len]; omega) (by omega), if_neg (by omega), pad_rd _ _ _ (by omega)]
        · rw [if_neg hl, if_neg (by rw [pad_len] at hl; omega)]
theorem put_len (s : RR) (v : Int) (n : Nat) (h0 : -(n : Int) ≤ s.po) (h1 : s.po ≤ n) (h2 : s.rt.length ≤ n + 1) (h3 : s.lf.length ≤ n + 1) : (s.put v).rt.length ≤ n + 1 ∧ (s.put v).lf.length ≤ n + 1 := by
  unfold RR.put
  split
  · simp only [List.length_set, pad_len]
    omega
  · simp only [List.length_set, pad_len]
    omega
theorem rr_step' {St Sy : Int} {rules : List (List S52)} (hM : okM St Sy rules = true) {n : Nat} {s : RR} {c : Cf} (hn : n ≤ 10000000) (hI : TI n s) (hR : TR s c) (hc : okC St Sy c) :
    if c.st = -1 then RR.step rules s = some (s, false) else ∃ s', RR.step rules s = some (s', true) ∧ TI (n + 1) s' ∧ TR s' (cstep rules c) := by
  obtain ⟨r1, r2, r3⟩ := hR
  by_cases hs : c.st = -1
  · rw [if_pos hs]
    unfold RR.step
    rw [if_pos (by omega)]
  rw [if_neg hs]
  obtain ⟨k0, k1, k2, k3⟩ := rule_ok hM hc hs
  obtain ⟨a, b, c1, d, e, f⟩ := hI
  have hat : s.at_ s.po = c.tp c.po := by rw [r3, r2]
  have hrule : s.rule rules = ruleOf rules c := by unfold RR.rule ruleOf; rw [hat, r1]
  obtain ⟨g0, g1, g2, g3, g4⟩ := k3
  have hok : s.ok rules := by
    refine ⟨by omega, by omega, by omega, by omega, by omega, by omega, by omega, by omega, ?_, ?_, ?_, ?_⟩
    · rw [hat]; exact (hc.2.2 _).1
    · rw [hat, r1, k2]; exact (hc.2.2 _).2
    · rw [hrule]; omega
    · rw [hrule]; omega
  unfold RR.step
  rw [if_neg (by omega), if_pos hok, hrule]
  have hp := put_len s (ruleOf rules c).f0 n a b c1 d
  refine ⟨_, rfl, ⟨by show _ ≤ s.po + _; omega, by show s.po + _ ≤ _; omega, by show (s.put _).rt.length ≤ _; omega, by show (s.put _).lf.length ≤ _; omega, by show 0 ≤ s.k + 1; omega, by show s.k + 1 ≤ _; omega⟩, rfl, by show s.po + _ = c.po + _; rw [r2], fun x => ?_⟩
  show (s.put (ruleOf rules c).f0).at_ x = if x = c.po then _ else c.tp x
  rw [put_at, r3, r2]
theorem rr_go' {St Sy : Int} {rules : List (List S52)} (hM : okM St Sy rules = true) : ∀ (m n : Nat) (s : RR) (c : Cf), n + m ≤ 10000000 → TI n s → TR s c → okC St Sy c →
    ∃ s', RR.go rules m s = some s' ∧ TI (n + m) s' ∧ TR s' (crun rules m c) ∧ okC St Sy (crun rules m c) := by
  intro m
  induction m with
  | zero => intro n s c _ hI hR hc; exact ⟨s, rfl, hI, hR, hc⟩
  | succ m ih =>
    intro n s c hn hI hR hc
    have h := rr_step' hM (by omega) hI hR hc
    by_cases hs : c.st = -1
    · rw [if_pos hs] at h
      have e : crun rules (m + 1) c = c := by simp only [crun]; rw [if_pos hs]
      refine ⟨s, by simp [RR.go, h], TI_mono hI (by omega), by rw [e]; exact hR, by rw [e]; exact hc⟩
    · rw [if_neg hs] at h
      obtain ⟨s1, h1, h2, h3⟩ := h
      obtain ⟨s', h4, h5, h6, h7⟩ := ih (n + 1) s1 (cstep rules c) (by omega) h2 h3 (okC_step hM hc hs)
      have e : crun rules (m + 1) c = crun rules m (cstep rules c) := by simp only [crun]; rw [if_neg hs]
      refine ⟨s', by simp [RR.go, h1, h4], by rw [show n + (m + 1) = n + 1 + m by omega]; exact h5, by rw [e]; exact h6, by rw [e]; exact h7⟩

/-! standstillref10_Check -/
theorem rr_low {St Sy : Int} {rules : List (List S52)} (hM : okM St Sy rules = true) : ∀ (m n : Nat) (s : RR) (c : Cf) (low : Int), n + m ≤ 10000000 → TI n s → TR s c → okC St Sy c →
    ∃ s', RR.lowrun rules m s low = some (s', (clow rules m c low).2) ∧ TI (n + m) s' ∧ TR s' (clow rules m c low).1 := by
  intro m
  induction m with
  | zero => intro n s c low _ hI hR hc; exact ⟨s, rfl, hI, hR⟩
  | succ m ih =>
    intro n s c low hn hI hR hc
    have h := rr_step' hM (by omega) hI hR hc
    by_cases hs : c.st = -1
    · rw [if_pos hs] at h
      obtain ⟨s', h4, h5, h6⟩ := ih n s c (mn low c.po) (by omega) hI hR hc
      have e : clow rules (m + 1) c low = clow rules m c (mn low c.po) := by simp only [clow]; rw [if_pos hs]
      rw [e]
      refine ⟨s', by simp only [RR.lowrun, h, Option.bind_some]; rw [hR.2.1]; exact h4, TI_mono h5 (by omega), h6⟩
    · rw [if_neg hs] at h
      obtain ⟨s1, h1, h2, h3⟩ := h
      obtain ⟨s', h4, h5, h6⟩ := ih (n + 1) s1 (cstep rules c) (mn low (cstep rules c).po) (by omega) h2 h3 (okC_step hM hc hs)
      have e : clow rules (m + 1) c low = clow rules m (cstep rules c) (mn low (cstep rules c).po) := by simp only [clow]; rw [if_neg hs]
      rw [e]
      refine ⟨s', by simp only [RR.lowrun, h1, Option.bind_some]; rw [h3.2.1]; exact h4, by rw [show n + (m + 1) = n + 1 + m by omega]; exact h5, h6⟩
theorem TI_sane {n : Nat} {s : RR} (h : TI n s) (hn : n ≤ 10000000) : s.sane := by
  obtain ⟨a, b, c, d, e, f⟩ := h
  exact ⟨by omega, by omega, by omega, by omega⟩
theorem alikeT (a b : RR) (d : Int) : ∀ (n : Nat) (x : Int), RR.alikeGo a b d n x = true ↔ ∀ y, x ≤ y → y < x + n → a.at_ y = b.at_ (y + d) := by
  intro n
  induction n with
  | zero => intro x; simp only [RR.alikeGo, true_iff]; intro y h1 h2; omega
  | succ n ih =>
    intro x
    simp only [RR.alikeGo]
    by_cases e : a.at_ x = b.at_ (x + d)
    · rw [if_pos e, ih]
      constructor
      · intro h y h1 h2
        by_cases ey : y = x
        · rw [ey]; exact e
        · exact h y (by omega) (by omega)
      · intro h y h1 h2
        exact h y (by omega) (by omega)
    · rw [if_neg e]
      constructor
      · intro h; cases h
      · intro h; exact absurd (h x (by omega) (by omega)) e
theorem crun_stop (rules : List (List S52)) (m : Nat) (c : Cf) (h : c.st = -1) : crun rules m c = c := by
  cases m with
  | zero => rfl
  | succ m => simp only [crun]; rw [if_pos h]
theorem check_f {St Sy : Int} {rules : List (List S52)} (hM : okM St Sy rules = true) (a b : Nat) (hab : a ≤ b) (hb : b ≤ 5000000) : ∃ r, standstillref10_Check.f St Sy rules a b = some r ∧ (r = true ↔ LoopR rules a b) := by
  obtain ⟨sc, h1, h2, h3, h4⟩ := rr_go' hM a 0 RR.new Cf.new (by omega) ⟨by show -((0 : Nat) : Int) ≤ 0; omega, by show (0 : Int) ≤ ((0 : Nat) : Int); omega, by show 0 ≤ 1; omega, by show 0 ≤ 1; omega, by show (0 : Int) ≤ 0; omega, by show (0 : Int) ≤ ((0 : Nat) : Int); omega⟩ TR_new (okC_new hM)
  unfold standstillref10_Check.f
  rw [if_pos ⟨by omega, by omega, by omega⟩, Int.toNat_natCast, h1]
  simp only [Option.bind_some]
  by_cases k0 : sc.st = -1
  · rw [if_pos k0]
    refine ⟨false, rfl, ?_⟩
    constructor
    · intro h; cases h
    · intro h
      unfold LoopR at h
      rw [crun_stop rules (b - a) _ (by rw [← h3.1]; exact k0)] at h
      exact absurd (by rw [← h3.1]; exact k0) h.1
  rw [if_neg k0, if_pos (TI_sane h2 (by omega)), show ((b : Int) - (a : Int)).toNat = b - a by omega]
  obtain ⟨sd, k1, k2, k3⟩ := rr_low hM (b - a) (0 + a) sc (crun rules a Cf.new) sc.po (by omega) h2 h3 h4
  have hge := clow_ge hM (b - a) (crun rules a Cf.new) sc.po (-(a : Int)) h4 (by have := h2.1; omega) (by have := h2.1; rw [← h3.2.1]; omega)
  rw [clow_run] at k3
  rw [k1]
  simp only [Option.bind_some]
  rw [if_pos ⟨TI_sane k2 (by omega), by omega⟩]
  unfold LoopR
  rw [← h3.1, ← k3.1, ← h3.2.1, ← k3.2.1]
  by_cases e1 : sd.st = -1
  · rw [if_pos e1]
    exact ⟨false, rfl, by constructor; (intro h; cases h); (intro h; exact absurd e1 h.1)⟩
  rw [if_neg e1]
  by_cases e2 : sd.st ≠ sc.st
  · rw [if_pos e2]
    exact ⟨false, rfl, by constructor; (intro h; cases h); (intro h; exact absurd h.2.1.symm e2)⟩
  rw [if_neg e2]
  by_cases e3 : sd.po - sc.po < 0
  · rw [if_pos e3]
    exact ⟨false, rfl, by constructor; (intro h; cases h); (intro h; have := h.2.2.1; omega)⟩
  rw [if_neg e3]
  refine ⟨_, rfl, ?_⟩
  rw [alikeT]
  constructor
  · intro h
    refine ⟨e1, by omega, by omega, fun x hx => ?_⟩
    rw [← h3.2.2, ← k3.2.2]
    by_cases hl : x ≤ mx (sc.rt.length : Int) (sd.rt.length : Int) + 1
    · exact h x hx (by omega)
    · have hm : (sc.rt.length : Int) < x ∧ (sd.rt.length : Int) < x := by unfold mx at hl; split at hl <;> omega
      unfold RR.at_
      rw [if_pos (by omega), if_neg (by omega), if_pos (by omega), if_neg (by omega)]
  · rintro ⟨_, _, _, h⟩ y hy _
    have := h y hy
    rwa [← h3.2.2, ← k3.2.2] at this

/-! A loop goes on for ever. -/
abbrev cAt (rules : List (List S52)) (n : Nat) : Cf := crun rules n Cf.new
theorem crun_add (rules : List (List S52)) : ∀ (m n : Nat) (c : Cf), crun rules (m + n) c = crun rules n (crun rules m c) := by
  intro m
  induction m with
  | zero => intro n c; rw [Nat.zero_add]; rfl
  | succ m ih =>
    intro n c
    rw [show m + 1 + n = (m + n) + 1 by omega]
    simp only [crun]
    by_cases h : c.st = -1
    · rw [if_pos h, if_pos h]
      cases n with
      | zero => rfl
      | succ n => simp only [crun]; rw [if_pos h]
    · rw [if_neg h, if_neg h]
      exact ih n _
theorem cAt_succ (rules : List (List S52)) (n : Nat) : cAt rules (n + 1) = if (cAt rules n).st = -1 then cAt rules n else cstep rules (cAt rules n) := by
  unfold cAt
  rw [crun_add]
  rfl
theorem cAt_stop (rules : List (List S52)) (n m : Nat) (h : (cAt rules n).st = -1) : cAt rules (n + m) = cAt rules n := by
  unfold cAt at h ⊢
  rw [crun_add]
  cases m with
  | zero => rfl
  | succ m => simp only [crun]; rw [if_pos h]
theorem cAt_ok {St Sy : Int} {rules : List (List S52)} (hM : okM St Sy rules = true) : ∀ n : Nat, okC St Sy (cAt rules n) := by
  intro n
  induction n with
  | zero => exact okC_new hM
  | succ n ih =>
    rw [cAt_succ]
    split
    · exact ih
    · rename_i h; exact okC_step hM ih h
theorem cAt_po {St Sy : Int} {rules : List (List S52)} (hM : okM St Sy rules = true) : ∀ n : Nat, -(n : Int) ≤ (cAt rules n).po ∧ (cAt rules n).po ≤ n := by
  intro n
  induction n with
  | zero => exact ⟨by show -((0 : Nat) : Int) ≤ 0; omega, by show (0 : Int) ≤ ((0 : Nat) : Int); omega⟩
  | succ n ih =>
    rw [cAt_succ]
    split
    · omega
    · rename_i h
      obtain ⟨_, _, _, g0, g1, g2, g3, g4⟩ := rule_ok hM (cAt_ok hM n) h
      show _ ≤ (cAt rules n).po + _ ∧ (cAt rules n).po + _ ≤ _
      omega
theorem crun_stop' (rules : List (List S52)) (m : Nat) (c : Cf) (h : c.st = -1) : crun rules m c = c := by
  cases m with
  | zero => rfl
  | succ m => simp only [crun]; rw [if_pos h]
/-- The least position of some steps, and that it is the least. -/
theorem clow_le (rules : List (List S52)) : ∀ (m : Nat) (c : Cf) (low : Int) (j : Nat), j ≤ m → low ≤ c.po → (clow rules m c low).2 ≤ (crun rules j c).po := by
  intro m
  induction m with
  | zero =>
    intro c low j hj h
    obtain rfl : j = 0 := by omega
    exact h
  | succ m ih =>
    intro c low j hj h
    simp only [clow]
    by_cases hs : c.st = -1
    · rw [if_pos hs]
      have := ih c (mn low c.po) 0 (by omega) (by unfold mn; split <;> omega)
      have e : crun rules j c = c := crun_stop' rules j c hs
      rw [e]
      exact this
    · rw [if_neg hs]
      cases j with
      | zero => exact Int.le_trans (Int.le_trans (clow_low rules m _ _) (by unfold mn; split <;> omega)) h
      | succ j =>
        have := ih (cstep rules c) (mn low (cstep rules c).po) j (by omega) (by unfold mn; split <;> omega)
        have e : crun rules (j + 1) c = crun rules j (cstep rules c) := by simp only [crun]; rw [if_neg hs]
        rw [e]
        exact this
theorem clow_bound (rules : List (List S52)) (B : Int) : ∀ (m : Nat) (c : Cf) (low : Int), B ≤ low → (∀ j, j ≤ m → B ≤ (crun rules j c).po) → B ≤ (clow rules m c low).2 := by
  intro m
  induction m with
  | zero => intro c low h _; exact h
  | succ m ih =>
    intro c low h hj
    simp only [clow]
    have h0 := hj 0 (by omega)
    by_cases hs : c.st = -1
    · rw [if_pos hs]
      refine ih c _ (by unfold mn; split; exact h0; exact h) (fun j hj' => ?_)
      rw [crun_stop' rules j c hs]
      exact h0
    · rw [if_neg hs]
      have h1 := hj 1 (by omega)
      have e : ∀ j, crun rules (j + 1) c = crun rules j (cstep rules c) := fun j => by simp only [crun]; rw [if_neg hs]
      rw [e 0] at h1
      refine ih _ _ (by unfold mn; split; exact h1; exact h) (fun j hj' => ?_)
      rw [← e j]
      exact hj (j + 1) (by omega)
section
variable {St Sy : Int} {rules : List (List S52)} {a b : Nat}
/-- The shift, and the least position. -/
abbrev lby (rules : List (List S52)) (a b : Nat) : Int := (cAt rules b).po - (cAt rules a).po
abbrev llow (rules : List (List S52)) (a b : Nat) : Int := (clow rules (b - a) (cAt rules a) (cAt rules a).po).2
theorem LoopR_iff (hab : a ≤ b) : LoopR rules a b ↔ ((cAt rules b).st ≠ -1 ∧ (cAt rules a).st = (cAt rules b).st ∧ 0 ≤ lby rules a b ∧ ∀ x, llow rules a b ≤ x → (cAt rules a).tp x = (cAt rules b).tp (x + lby rules a b)) := by
  have e : crun rules (b - a) (crun rules a Cf.new) = cAt rules b := by
    rw [← crun_add, show a + (b - a) = b by omega]
  unfold LoopR
  rw [e]
theorem low_le (hab : a ≤ b) (j : Nat) (hj : j ≤ b - a) : llow rules a b ≤ (cAt rules (a + j)).po := by
  have := clow_le rules (b - a) (cAt rules a) (cAt rules a).po j hj (Int.le_refl _)
  unfold cAt at this ⊢
  rw [crun_add]
  exact this
/-- What holds after each number of further steps. -/
def Per (rules : List (List S52)) (a b t : Nat) : Prop :=
  (cAt rules (b + t)).st = (cAt rules (a + t)).st ∧ (cAt rules (b + t)).po = (cAt rules (a + t)).po + lby rules a b ∧ (∀ x, llow rules a b ≤ x → (cAt rules (a + t)).tp x = (cAt rules (b + t)).tp (x + lby rules a b)) ∧ (cAt rules (a + t)).st ≠ -1 ∧ llow rules a b ≤ (cAt rules (a + t)).po
theorem loop_per (hab : a < b) (h : LoopR rules a b) : ∀ t, Per rules a b t := by
  rw [LoopR_iff (by omega)] at h
  obtain ⟨h1, h2, h3, h4⟩ := h
  have hns : ∀ j, j ≤ b - a → (cAt rules (a + j)).st ≠ -1 := by
    intro j hj he
    have := cAt_stop rules (a + j) (b - a - j) he
    rw [show a + j + (b - a - j) = b by omega] at this
    rw [this] at h1
    exact h1 he
  intro t
  induction t using Nat.strongRecOn with
  | _ t ih =>
    -- the state and the position of the elder run
    have hold : (cAt rules (a + t)).st ≠ -1 ∧ llow rules a b ≤ (cAt rules (a + t)).po := by
      by_cases hp : t ≤ b - a
      · exact ⟨hns t hp, low_le (by omega) t hp⟩
      · obtain ⟨p1, p2, p3, p4, p5⟩ := ih (t - (b - a)) (by omega)
        have e : b + (t - (b - a)) = a + t := by omega
        rw [e] at p1 p2
        exact ⟨by rw [p1]; exact p4, by rw [p2]; omega⟩
    cases t with
    | zero => exact ⟨h2.symm, by show (cAt rules b).po = (cAt rules a).po + _; unfold lby; omega, h4, hold⟩
    | succ t =>
      obtain ⟨p1, p2, p3, p4, p5⟩ := ih t (by omega)
      have e1 : cAt rules (a + (t + 1)) = cstep rules (cAt rules (a + t)) := by rw [show a + (t + 1) = (a + t) + 1 by omega, cAt_succ, if_neg p4]
      have e2 : cAt rules (b + (t + 1)) = cstep rules (cAt rules (b + t)) := by rw [show b + (t + 1) = (b + t) + 1 by omega, cAt_succ, if_neg (by rw [p1]; exact p4)]
      have er : ruleOf rules (cAt rules (b + t)) = ruleOf rules (cAt rules (a + t)) := by
        unfold ruleOf
        rw [p1, p2, ← p3 _ p5]
      refine ⟨?_, ?_, ?_, hold⟩
      · rw [e1, e2]
        show (ruleOf rules _).f2 = (ruleOf rules _).f2
        rw [er]
      · rw [e1, e2]
        show (cAt rules (b + t)).po + (ruleOf rules _).f1 = (cAt rules (a + t)).po + (ruleOf rules _).f1 + _
        rw [er, p2]
        omega
      · intro x hx
        rw [e1, e2]
        show (if x = (cAt rules (a + t)).po then _ else (cAt rules (a + t)).tp x) = (if x + _ = (cAt rules (b + t)).po then _ else (cAt rules (b + t)).tp (x + _))
        rw [er, p2]
        by_cases hxe : x = (cAt rules (a + t)).po
        · rw [if_pos hxe, if_pos (by omega)]
        · rw [if_neg hxe, if_neg (by omega)]
          exact p3 x hx
theorem per_st (hab : a < b) (h : LoopR rules a b) (n : Nat) : (cAt rules n).st ≠ -1 := by
  by_cases hn : a ≤ n
  · have := (loop_per hab h (n - a)).2.2.2.1
    rwa [show a + (n - a) = n by omega] at this
  · intro he
    have h0 := (loop_per hab h 0).2.2.2.1
    have := cAt_stop rules n (a - n) he
    rw [show n + (a - n) = a + 0 by omega] at this
    rw [this] at h0
    exact h0 he
/-- After q rounds more. -/
theorem per_rounds (hab : a < b) (h : LoopR rules a b) (q : Nat) : ∀ t, (cAt rules (a + t + q * (b - a))).st = (cAt rules (a + t)).st ∧ (cAt rules (a + t + q * (b - a))).po = (cAt rules (a + t)).po + q * lby rules a b := by
  induction q with
  | zero => intro t; rw [Nat.zero_mul, Nat.add_zero]; exact ⟨rfl, by simp⟩
  | succ q ih =>
    intro t
    obtain ⟨i1, i2⟩ := ih t
    obtain ⟨p1, p2, _⟩ := loop_per hab h (t + q * (b - a))
    have e : a + t + (q + 1) * (b - a) = b + (t + q * (b - a)) := by rw [Nat.add_mul, Nat.one_mul]; omega
    have e2 : a + (t + q * (b - a)) = a + t + q * (b - a) := by omega
    rw [e2] at p1 p2
    rw [e, p1, p2, i1, i2]
    refine ⟨rfl, ?_⟩
    have : ((q + 1 : Nat) : Int) * lby rules a b = q * lby rules a b + lby rules a b := by rw [Int.natCast_add, Int.add_mul]; simp
    omega
theorem loop_later (hab : a < b) (h : LoopR rules a b) (i : Nat) : LoopR rules (a + i) (b + i) := by
  rw [LoopR_iff (by omega)]
  obtain ⟨p1, p2, p3, p4, p5⟩ := loop_per hab h i
  have hby : lby rules (a + i) (b + i) = lby rules a b := by unfold lby at p2 ⊢; omega
  have hlow : llow rules a b ≤ llow rules (a + i) (b + i) := by
    refine clow_bound rules _ _ _ _ p5 (fun j hj => ?_)
    have := (loop_per hab h (i + j)).2.2.2.2
    unfold cAt at this ⊢
    rw [← crun_add, show a + i + j = a + (i + j) by omega]
    exact this
  rw [LoopR_iff (by omega)] at h
  refine ⟨by rw [p1]; exact p4, p1.symm, by rw [hby]; exact h.2.2.1, fun x hx => ?_⟩
  rw [hby]
  exact p3 x (Int.le_trans hlow hx)
theorem loop_times (hab : a < b) (h : LoopR rules a b) (q : Nat) (hq : 0 < q) : LoopR rules a (a + q * (b - a)) := by
  have hp : 0 < q * (b - a) := Nat.mul_pos hq (by omega)
  have hmul : b - a ≤ q * (b - a) := Nat.le_mul_of_pos_left _ hq
  rw [LoopR_iff (by omega)]
  have hr : ∀ q, (cAt rules (a + q * (b - a))).st = (cAt rules a).st ∧ (cAt rules (a + q * (b - a))).po = (cAt rules a).po + q * lby rules a b := fun q => per_rounds hab h q 0
  obtain ⟨r1, r2⟩ := hr q
  have h0 := h
  rw [LoopR_iff (by omega)] at h
  obtain ⟨h1, h2, h3, h4⟩ := h
  have hby : lby rules a (a + q * (b - a)) = q * lby rules a b := by
    show (cAt rules (a + q * (b - a))).po - (cAt rules a).po = _
    rw [r2]; omega
  have hlow : llow rules a b ≤ llow rules a (a + q * (b - a)) := by
    refine clow_bound rules _ _ _ _ (by have := (loop_per hab h0 0).2.2.2.2; exact this) (fun j hj => ?_)
    have := (loop_per hab h0 j).2.2.2.2
    unfold cAt at this ⊢
    rw [← crun_add]
    exact this
  refine ⟨by rw [r1]; exact (loop_per hab h0 0).2.2.2.1, r1.symm, by rw [hby]; exact Int.mul_nonneg (by omega) h3, fun x hx => ?_⟩
  rw [hby]
  have hx' := Int.le_trans hlow hx
  have key : ∀ q : Nat, (cAt rules a).tp x = (cAt rules (a + q * (b - a))).tp (x + q * lby rules a b) := by
    intro q
    induction q with
    | zero => simp
    | succ q ih =>
      have p3 := (loop_per hab h0 (q * (b - a))).2.2.1 (x + q * lby rules a b) (by have := Int.mul_nonneg (show (0 : Int) ≤ (q : Int) by omega) h3; omega)
      rw [ih, p3]
      have e : b + q * (b - a) = a + (q + 1) * (b - a) := by rw [Nat.add_mul, Nat.one_mul]; omega
      have e2 : x + (q : Int) * lby rules a b + lby rules a b = x + ((q + 1 : Nat) : Int) * lby rules a b := by rw [Int.natCast_add, Int.add_mul]; simp; omega
      rw [e, e2]
  exact key q
end

/-! The mirrored run, and After. -/
theorem rule_mir {St Sy : Int} {rules : List (List S52)} (hM : okM St Sy rules = true) {c d : Cf} (hc : okC St Sy c) (hs : c.st ≠ -1) (h1 : d.st = c.st) (h2 : d.tp d.po = c.tp c.po) : ruleOf (mirM rules) d = ⟨(ruleOf rules c).f0, -(ruleOf rules c).f1, (ruleOf rules c).f2⟩ := by
  obtain ⟨m1, m2, m3, m4, m5, h6⟩ := okM_len hM
  obtain ⟨c0, c1, c2⟩ := hc
  obtain ⟨i, hi⟩ := Int.eq_ofNat_of_zero_le (show 0 ≤ c.st by omega)
  obtain ⟨j, hj⟩ := Int.eq_ofNat_of_zero_le (c2 c.po).1
  have hlt : i < rules.length := by omega
  have h7 := h6 _ (List.getElem_mem hlt)
  have hjl : j < (rules[i]).length := by have := (c2 c.po).2; omega
  unfold ruleOf
  rw [h1, h2, hi, hj, rdL _ i (by unfold mirM; simpa using hlt), rdL rules i hlt, rdT _ j hjl]
  have e : (mirM rules)[i]'(by unfold mirM; simpa using hlt) = rules[i].map mir := by unfold mirM; simp
  rw [e, rdT _ j (by simpa using hjl), List.getElem_map, mir_neg (h7.2 _ (List.getElem_mem hjl))]
theorem mir_run {St Sy : Int} {rules : List (List S52)} (hM : okM St Sy rules = true) : ∀ n : Nat, (cAt (mirM rules) n).st = (cAt rules n).st ∧ (cAt (mirM rules) n).po = -(cAt rules n).po ∧ ∀ x, (cAt (mirM rules) n).tp x = (cAt rules n).tp (-x) := by
  intro n
  induction n with
  | zero => exact ⟨rfl, rfl, fun x => rfl⟩
  | succ n ih =>
    obtain ⟨i1, i2, i3⟩ := ih
    rw [cAt_succ, cAt_succ, i1]
    by_cases hs : (cAt rules n).st = -1
    · rw [if_pos hs, if_pos hs]
      exact ⟨i1, i2, i3⟩
    · rw [if_neg hs, if_neg hs]
      have er := rule_mir (d := cAt (mirM rules) n) hM (cAt_ok hM n) hs i1 (by rw [i3, i2, Int.neg_neg])
      refine ⟨?_, ?_, fun x => ?_⟩
      · show (ruleOf _ _).f2 = (ruleOf _ _).f2
        rw [er]
      · show (cAt (mirM rules) n).po + (ruleOf _ _).f1 = -((cAt rules n).po + (ruleOf _ _).f1)
        rw [er, i2]
        simp only
        omega
      · show (if x = (cAt (mirM rules) n).po then (ruleOf _ _).f0 else (cAt (mirM rules) n).tp x) = (if -x = (cAt rules n).po then (ruleOf _ _).f0 else (cAt rules n).tp (-x))
        rw [er, i2, i3]
        by_cases hx : x = -(cAt rules n).po
        · rw [if_pos hx, if_pos (by omega)]
        · rw [if_neg hx, if_neg (by omega)]
/-- A machine with a loop on a side, after more rounds. -/
theorem side_rounds {St Sy : Int} {rules : List (List S52)} (hM : okM St Sy rules = true) {a b : Nat} (hab : a < b) (r : Bool) (h : LoopR (if r = true then rules else mirM rules) a b) :
    (∀ n, (cAt rules n).st ≠ -1) ∧ ∀ q t : Nat, (cAt rules (a + t + q * (b - a))).st = (cAt rules (a + t)).st ∧ (cAt rules (a + t + q * (b - a))).po = (cAt rules (a + t)).po + q * lby rules a b := by
  cases r with
  | true => exact ⟨fun n => per_st hab h n, fun q t => per_rounds hab h q t⟩
  | false =>
    simp only [Bool.false_eq_true, if_false] at h
    refine ⟨fun n => by rw [← (mir_run hM n).1]; exact per_st hab h n, fun q t => ?_⟩
    obtain ⟨p1, p2⟩ := per_rounds hab h q t
    have m1 := mir_run hM (a + t + q * (b - a))
    have m2 := mir_run hM (a + t)
    have hby : lby (mirM rules) a b = -lby rules a b := by
      show (cAt (mirM rules) b).po - (cAt (mirM rules) a).po = -((cAt rules b).po - (cAt rules a).po)
      rw [(mir_run hM a).2.1, (mir_run hM b).2.1]
      omega
    rw [m1.1, m2.1] at p1
    rw [m1.2.1, m2.2.1, hby, Int.mul_neg] at p2
    exact ⟨p1, by omega⟩
theorem after_go {St Sy : Int} {rules : List (List S52)} (hM : okM St Sy rules = true) (a b k : Nat) (hab : a < b) (hb : b ≤ 3000000) (hk : k ≤ 1152921504606846976) (r : Bool) (h : LoopR (if r = true then rules else mirM rules) a b) :
    AF.go rules a b k = some ((cAt rules k).po, (cAt rules k).st, 0) := by
  obtain ⟨hst, hro⟩ := side_rounds hM hab r h
  obtain ⟨sc, ic, c1, c2, c3, c4⟩ := rs_run hM a 0 RS.new Cf.new 0 (by omega) SI_new SR_new (okC_new hM)
  obtain ⟨sd, id', d1, d2, d3, d4⟩ := rs_run hM (b - a) (0 + a) sc (crun rules a Cf.new) 0 (by omega) c2 c3 c4
  rw [← crun_add, show a + (b - a) = b by omega] at d3
  obtain ⟨n, hn⟩ : ∃ n, n = b - a := ⟨_, rfl⟩
  have hnI : (b : Int) - (a : Int) = (n : Int) := by omega
  obtain ⟨q, m, hq, hqm, hm⟩ : ∃ q m : Nat, AF.rounds a n k = (q : Int) ∧ k = m + q * n ∧ m ≤ b ∧ (k ≤ a → q = 0) ∧ (a < k → a ≤ m) := by
    by_cases hka : k ≤ a
    · exact ⟨0, k, by unfold AF.rounds; rw [if_neg (by omega)]; rfl, by omega, by omega, fun _ => rfl, fun h => by omega⟩
    · refine ⟨(k - a) / n, a + (k - a) % n, ?_, ?_, ?_, fun h => by omega, fun _ => by omega⟩
      · unfold AF.rounds
        rw [if_pos (by omega), show (k : Int) - (a : Int) = ((k - a : Nat) : Int) by omega]
        exact (Int.ofNat_tdiv _ _).symm
      · have := Nat.div_add_mod (k - a) n
        rw [Nat.mul_comm] at this
        omega
      · have := Nat.mod_lt (k - a) (show 0 < n by omega)
        omega
  obtain ⟨hmb, hq0, hma⟩ := hm
  have hend : (cAt rules k).st = (cAt rules m).st ∧ (cAt rules k).po = (cAt rules m).po + q * lby rules a b := by
    by_cases hka : k ≤ a
    · obtain rfl := hq0 hka
      rw [Nat.zero_mul] at hqm
      rw [hqm]
      exact ⟨rfl, by simp⟩
    · have := hro q (m - a)
      rw [← hn, show a + (m - a) = m by have := hma (by omega); omega, ← hqm] at this
      exact this
  obtain ⟨se, ie, e1, e2, e3, e4⟩ := rs_run hM m 0 RS.new Cf.new 0 (by omega) SI_new SR_new (okC_new hM)
  have hy : sd.po - sc.po = lby rules a b := by rw [d3.2.1, c3.2.1]
  have hpk := cAt_po hM k
  have hpm := cAt_po hM m
  have hpe : se.po = (cAt rules m).po := e3.2.1
  have hse : se.st = (cAt rules m).st := e3.1
  obtain ⟨Y, hY⟩ : ∃ Y, lby rules a b = Y := ⟨_, rfl⟩
  obtain ⟨Z, hZ⟩ : ∃ Z, (q : Int) * Y = Z := ⟨_, rfl⟩
  rw [hY, hZ] at hend
  rw [hY] at hy
  have hqn : ((q * n : Nat) : Int) = (q : Int) * (n : Int) := Int.natCast_mul _ _
  have hkm : (k : Int) - (q : Int) * (n : Int) = (m : Int) := by rw [← hqn]; omega
  unfold AF.go
  rw [if_pos ⟨by omega, by omega, by omega, by omega, by omega⟩, Int.toNat_natCast, c1]
  simp only [Option.bind_some]
  rw [hnI, Int.toNat_natCast, hn, d1]
  simp only [Option.bind_some]
  rw [if_pos ⟨SI_sane c2 (by omega), SI_sane d2 (by omega)⟩, ← hn, hq, hy]
  unfold AF.rest
  rw [hkm, if_pos ⟨by omega, by omega, by rw [← hqn]; omega⟩, Int.toNat_natCast, e1]
  simp only [Option.bind_some]
  have hok : AF.ok q Y se = ((cAt rules k).po, (cAt rules k).st, 0) := by
    unfold AF.ok
    rw [hZ, wrap_id (x := Z) (by omega) (by omega), hpe, wrap_id (by omega) (by omega), hse, hend.1, hend.2]
  unfold AF.fin
  rw [if_pos (SI_sane e2 (by omega)), hok]
  by_cases y0 : 0 < Y
  · rw [if_pos y0, if_neg]
    have : (q : Int) ≤ Int.tdiv (1152921504606846976 - se.po) Y := by
      rw [Int.tdiv_eq_ediv_of_nonneg (by omega)]
      exact Int.le_ediv_of_mul_le y0 (by rw [hZ]; omega)
    omega
  · rw [if_neg y0]
    by_cases y1 : Y < 0
    · rw [if_pos y1, if_neg]
      have : (q : Int) ≤ Int.tdiv (1152921504606846976 + se.po) (-Y) := by
        rw [Int.tdiv_eq_ediv_of_nonneg (by omega)]
        exact Int.le_ediv_of_mul_le (by omega) (by rw [Int.mul_neg, hZ]; omega)
      omega
    · rw [if_neg y1]
/-- After, for a machine with a loop. -/
theorem after_f {St Sy : Int} {rules : List (List S52)} (hM : okM St Sy rules = true) (a b k : Int) (r : Bool) (h0 : 0 ≤ a) (hab : a < b) (hb : b ≤ 1000000) (hk0 : 0 ≤ k) (hk : k ≤ 1152921504606846976) (h : LoopR (if r = true then rules else mirM rules) a.toNat b.toNat)
    (hc : Ev (fun kk => loop_Check.f kk St Sy rules a b r) (true, 0)) : Ev (fun kk => loop_After.f kk St Sy rules a b r k) ((cAt rules k.toNat).po, (cAt rules k.toNat).st, 0) := by
  unfold loop_After.f
  rw [Ev_bind hc]
  simp only [if_true, Ev_ite]
  rw [if_neg (by omega), if_neg (by omega)]
  have e1 : ((a.toNat : Nat) : Int) = a := by omega
  have e2 : ((b.toNat : Nat) : Int) = b := by omega
  have e3 : ((k.toNat : Nat) : Int) = k := by omega
  have := after_go hM a.toNat b.toNat k.toNat (by omega) (by omega) (by omega) r h
  rw [e1, e2, e3] at this
  rw [this]
  exact Ev.now _

theorem awake_ev : Ev (fun k => standstilllaw10_awake.f k) true := Ev.of (k := 60) standstilllaw10_awake.mono (by decide +kernel)
theorem sided_f {St Sy : Int} {rules : List (List S52)} (hM : okM St Sy rules = true) (r : Bool) : Ev (fun k => loop_sided.f k St Sy rules r) (St, Sy, if r = true then rules else mirM rules) := by
  unfold loop_sided.f
  cases r with
  | true => exact Ev.now _
  | false =>
    simp only [Bool.false_eq_true, if_false]
    rw [Ev_bind (tm_f hM)]
    exact Ev.now _
theorem side_M {St Sy : Int} {rules : List (List S52)} (hM : okM St Sy rules = true) (r : Bool) : okM St Sy (if r = true then rules else mirM rules) = true := by
  cases r with
  | true => exact hM
  | false => exact okM_mir hM
/-- Check, for every argument that the law lets in. -/
theorem lcheck_f (St Sy : Int) (rules : List (List S52)) (a b : Int) (r : Bool) (hl : rules.length ≤ 100000000000000) (hr : ∀ x ∈ rules, x.length ≤ 100000000000000) :
    (okM St Sy rules = false → Ev (fun k => loop_Check.f k St Sy rules a b r) (false, 1)) ∧
    (okM St Sy rules = true → (a < 0 ∨ a ≥ b ∨ b > 1000000) → Ev (fun k => loop_Check.f k St Sy rules a b r) (false, 2)) ∧
    (okM St Sy rules = true → 0 ≤ a → a < b → b ≤ 1000000 → ∃ t, Ev (fun k => loop_Check.f k St Sy rules a b r) (t, 0) ∧ loop_right.f St Sy (if r = true then rules else mirM rules) a b = some t ∧ (t = true ↔ LoopR (if r = true then rules else mirM rules) a.toNat b.toNat)) := by
  refine ⟨fun h => ?_, fun h hh => ?_, fun h h0 h1 h2 => ?_⟩
  · unfold loop_Check.f
    rw [Ev_bind (tv_f St Sy rules hl hr), h]
    exact Ev.now _
  · have hj : Ev (fun k => loop_Check.j0 k a b r true St Sy rules) (false, 2) := by
      rw [Ev_succ]
      simp only [loop_Check.j0, Ev_ite, Ev_some]
      simp
    unfold loop_Check.f
    rw [Ev_bind (tv_f St Sy rules hl hr), h]
    simp only [if_true, Ev_ite]
    by_cases c0 : a < 0
    · rw [if_pos c0]; exact hj
    rw [if_neg c0]
    by_cases c1 : a ≥ b
    · rw [if_pos c1]; exact hj
    rw [if_neg c1, decide_eq_true (show b > 1000000 by omega)]
    exact hj
  · have e1 : ((a.toNat : Nat) : Int) = a := by omega
    have e2 : ((b.toNat : Nat) : Int) = b := by omega
    obtain ⟨t, h3, h4⟩ := right_f (side_M h r) a.toNat b.toNat (by omega) (by omega)
    rw [e1, e2] at h3
    refine ⟨t, ?_, h3, h4⟩
    unfold loop_Check.f
    rw [Ev_bind (tv_f St Sy rules hl hr), h]
    simp only [if_true, Ev_ite]
    rw [if_neg (by omega), if_neg (by omega), decide_eq_false (by omega), Ev_succ]
    simp only [loop_Check.j0, Ev_ite]
    rw [if_neg (by simp), Ev_bind (sided_f h r)]
    simp only [h3, Option.bind_some]
    exact Ev.now _

theorem TI_new : TI 0 RR.new := ⟨by show -((0 : Nat) : Int) ≤ 0; omega, by show (0 : Int) ≤ ((0 : Nat) : Int); omega, by show 0 ≤ 1; omega, by show 0 ≤ 1; omega, by show (0 : Int) ≤ 0; omega, by show (0 : Int) ≤ ((0 : Nat) : Int); omega⟩
theorem rafter_f {St Sy : Int} {rules : List (List S52)} (hM : okM St Sy rules = true) (a b k : Nat) (hab : a < b) (hb : b ≤ 1000000) (hk : k ≤ 1152921504606846976) (h : LoopR rules a b) :
    standstillref10_After.f rules a b k = some ((cAt rules k).po, (cAt rules k).st) := by
  unfold standstillref10_After.f
  rw [if_pos ⟨by omega, by omega, by omega, by omega, by omega⟩]
  by_cases hkb : k ≤ b
  · rw [if_pos (by omega), Int.toNat_natCast]
    obtain ⟨s', g1, g2, g3, g4⟩ := rr_go' hM k 0 RR.new Cf.new (by omega) TI_new TR_new (okC_new hM)
    rw [g1]
    simp only [Option.bind_some]
    rw [show s'.po = (cAt rules k).po from g3.2.1, show s'.st = (cAt rules k).st from g3.1]
  · rw [if_neg (by omega), Int.toNat_natCast, Int.toNat_natCast]
    obtain ⟨sb, b1, b2, b3, b4⟩ := rr_go' hM b 0 RR.new Cf.new (by omega) TI_new TR_new (okC_new hM)
    obtain ⟨sa, a1, a2, a3, a4⟩ := rr_go' hM a 0 RR.new Cf.new (by omega) TI_new TR_new (okC_new hM)
    rw [b1]
    simp only [Option.bind_some]
    rw [a1]
    simp only [Option.bind_some]
    rw [if_pos ⟨TI_sane b2 (by omega), TI_sane a2 (by omega)⟩]
    obtain ⟨n, hn⟩ : ∃ n, n = b - a := ⟨_, rfl⟩
    have hn0 : 0 < n := by omega
    have e1 : (b : Int) - (a : Int) = (n : Int) := by omega
    have e2 : (k : Int) - (a : Int) = ((k - a : Nat) : Int) := by omega
    have e3 : Int.tdiv ((k - a : Nat) : Int) (n : Int) = (((k - a) / n : Nat) : Int) := (Int.ofNat_tdiv _ _).symm
    have e4 : Int.tmod ((k - a : Nat) : Int) (n : Int) = (((k - a) % n : Nat) : Int) := (Int.ofNat_tmod _ _).symm
    rw [e1, e2, e3, e4]
    have hd := Nat.mod_add_div (k - a) n
    have ht := Nat.mod_lt (k - a) hn0
    rw [Nat.mul_comm] at hd
    obtain ⟨q, hq⟩ : ∃ q, (k - a) / n = q := ⟨_, rfl⟩
    obtain ⟨t, ht'⟩ : ∃ t, (k - a) % n = t := ⟨_, rfl⟩
    rw [hq, ht'] at hd
    rw [ht'] at ht
    rw [hq, ht', show ((a : Int) + (t : Int)).toNat = a + t by omega]
    obtain ⟨sr, r1, r2, r3, r4⟩ := rr_go' hM (a + t) 0 RR.new Cf.new (by omega) TI_new TR_new (okC_new hM)
    rw [r1]
    simp only [Option.bind_some]
    obtain ⟨p1, p2⟩ := per_rounds hab h q t
    rw [← hn, show a + t + q * n = k by omega] at p1 p2
    have hy : sb.po - sa.po = lby rules a b := by
      rw [show sb.po = (cAt rules b).po from b3.2.1, show sa.po = (cAt rules a).po from a3.2.1]
    have hpk := cAt_po hM k
    have hpm := cAt_po hM (a + t)
    obtain ⟨Y, hY⟩ : ∃ Y, lby rules a b = Y := ⟨_, rfl⟩
    obtain ⟨Z, hZ⟩ : ∃ Z, (q : Int) * Y = Z := ⟨_, rfl⟩
    rw [hY, hZ] at p2
    rw [hy, hY, hZ, wrap_id (x := Z) (by omega) (by omega), show sr.po = (cAt rules (a + t)).po from r3.2.1, wrap_id (by omega) (by omega), show sr.st = (cAt rules (a + t)).st from r3.1, p1, p2]
theorem side_ev {St Sy : Int} {rules : List (List S52)} (hM : okM St Sy rules = true) (a b : Int) (r t : Bool) (h0 : 0 ≤ a) (h1 : a < b) (h2 : b ≤ 1000000) (q3 : t = true ↔ LoopR (if r = true then rules else mirM rules) a.toNat b.toNat) : Ev (fun k => standstillref10_Side.f k St Sy rules a b r) t := by
  have e1 : ((a.toNat : Nat) : Int) = a := by omega
  have e2 : ((b.toNat : Nat) : Int) = b := by omega
  obtain ⟨t', h3, h4⟩ := check_f (side_M hM r) a.toNat b.toNat (by omega) (by omega)
  have ht : t' = t := by rw [Bool.eq_iff_iff, h4, q3]
  rw [e1, e2, ht] at h3
  unfold standstillref10_Side.f
  simp only [Ev_ite]
  cases r with
  | true =>
    simp only [if_true] at h3 ⊢
    simp only [h3, Option.bind_some]
    exact Ev.now _
  | false =>
    simp only [Bool.false_eq_true, if_false] at h3 ⊢
    rw [Ev_bind (rm_f hM)]
    simp only [h3, Option.bind_some]
    exact Ev.now _
theorem LoopAfter : standstilllaw10_LoopAfter.Pure := by
  intro St Sy rules a b r k _ _ hrl _ _ _
  apply Ev.rounds
  obtain ⟨hl, hr⟩ := hrl
  have hl' : rules.length ≤ 100000000000000 := by omega
  have hr' : ∀ x ∈ rules, x.length ≤ 100000000000000 := fun x hx => by have := (hr x hx).1; omega
  unfold standstilllaw10_LoopAfter.f
  simp only [Ev_ite]
  by_cases c0 : 2000 < b ∧ b ≤ 1000000
  · rw [if_pos c0]
    exact awake_ev
  rw [if_neg c0]
  obtain ⟨p1, p2, p3⟩ := lcheck_f St Sy rules a b r hl' hr'
  have hv := rv_f St Sy rules hl' hr'
  cases hM : okM St Sy rules with
  | false =>
    rw [hM] at hv
    have ha : Ev (fun kk => loop_After.f kk St Sy rules a b r k) (0, 0, 1) := by
      unfold loop_After.f
      rw [Ev_bind (p1 hM)]
      simp only
      rw [if_neg (by decide)]
      exact Ev.now _
    rw [Ev_bind ha, Ev_bind hv]
    simp only [Bool.false_eq_true, if_false, if_true]
    exact awake_ev
  | true =>
    rw [hM] at hv
    by_cases hbad : a < 0 ∨ a ≥ b ∨ b > 1000000
    · have ha : Ev (fun kk => loop_After.f kk St Sy rules a b r k) (0, 0, 2) := by
        unfold loop_After.f
        rw [Ev_bind (p2 hM hbad)]
        simp only
        rw [if_neg (by decide)]
        exact Ev.now _
      rw [Ev_bind ha, Ev_bind hv]
      simp only [if_true, Ev_ite]
      rw [if_pos (by omega)]
      exact awake_ev
    obtain ⟨t, q1, q2, q3⟩ := p3 hM (by omega) (by omega) (by omega)
    by_cases hk : k < 0 ∨ 1152921504606846976 < k
    · have ha : Ev (fun kk => loop_After.f kk St Sy rules a b r k) (0, 0, 2) := by
        unfold loop_After.f
        rw [Ev_bind q1]
        simp only [if_true]
        by_cases k0 : k < 0
        · rw [if_pos k0]
          exact Ev.now _
        · rw [if_neg k0, if_pos (by omega)]
          exact Ev.now _
      rw [Ev_bind ha, Ev_bind hv]
      simp only [if_true, Ev_ite]
      rw [if_pos (by omega)]
      exact awake_ev
    have hsd := side_ev hM a b r t (by omega) (by omega) (by omega) q3
    cases t with
    | false =>
      have ha : Ev (fun kk => loop_After.f kk St Sy rules a b r k) (0, 0, 6) := by
        unfold loop_After.f
        rw [Ev_bind q1]
        simp only [if_true]
        rw [if_neg (by omega), if_neg (by omega)]
        simp only [Bool.false_eq_true, if_false]
        exact Ev.now _
      rw [Ev_bind ha, Ev_bind hv]
      simp only [if_true, Ev_ite]
      rw [if_neg (by omega), Ev_bind hsd]
      simp only [Bool.false_eq_true, if_false, if_true]
      exact awake_ev
    | true =>
      have hL := q3.1 rfl
      have ha := after_f hM a b k r (by omega) (by omega) (by omega) (by omega) (by omega) hL q1
      rw [Ev_bind ha, Ev_bind hv]
      simp only [if_true, Ev_ite]
      rw [if_neg (by omega), Ev_bind hsd]
      simp only [if_true, Ev_ite]
      have e1 : ((a.toNat : Nat) : Int) = a := by omega
      have e2 : ((b.toNat : Nat) : Int) = b := by omega
      have e3 : ((k.toNat : Nat) : Int) = k := by omega
      have hra := rafter_f (side_M hM r) a.toNat b.toNat k.toNat (by omega) (by omega) (by omega) hL
      rw [e1, e2, e3] at hra
      cases r with
      | true =>
        simp only [if_true] at hra ⊢
        rw [hra]
        simp only [Option.bind_some, if_true]
        exact awake_ev
      | false =>
        simp only [Bool.false_eq_true, if_false] at hra ⊢
        rw [Ev_bind (rm_f hM)]
        simp only [hra, Option.bind_some, Ev_ite]
        have hm := mir_run hM k.toNat
        have hp := cAt_po hM k.toNat
        rw [if_pos (by rw [hm.1, hm.2.1, wrap_id (by omega) (by omega), show 0 - -(cAt rules k.toNat).po = (cAt rules k.toNat).po by omega])]
        exact awake_ev

end Go.Proofs.Ytngmdidegmbpfaa.Pure
