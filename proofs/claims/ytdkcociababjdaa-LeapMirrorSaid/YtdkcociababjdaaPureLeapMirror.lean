/- The plain law of LeapMirror: leaps of the mirrored machine on the mirrored tape lead to the mirrored tape, with the same number of steps, or have the same error. No condition beyond what every argument has (numbers of their kind, lists within memory). -/
import Derived.Test.YtdkcociababjdaaAid
import Derived.Test.YtdkcociababjdaaPLeapMirrorx11
namespace Go.Proofs.Ytdkcociababjdaa.Pure
open Go.RowKit Go.Proofs.Ytdkcociababjdaa.PLeapMirror Go.Proofs.YtdkcociababjdaaW.PrintWords Go.Proofs.YtdkcociababjdaaW.PrintLast Go.Proofs.YtdkcociababjdaaW.PrintMore Go.Proofs.YtdkcociababjdaaAid
set_option linter.unusedVariables false
set_option linter.unusedSimpArgs false

theorem wrapn (i : Nat) (h : i ≤ 1000000000000000000) : wrap64 ((i : Int) + 1) = ((i + 1 : Nat) : Int) := by
  rw [wrap_id (by omega) (by omega)]; omega
theorem rdT (l : List S37) (i : Nat) (h : i < l.length) : rd_T37 l (i : Int) = l[i] := by
  simp [rd_T37, List.getD, h]
theorem rdL (l : List (List S37)) (i : Nat) (h : i < l.length) : rd_L2 l (i : Int) = l[i] := by
  simp [rd_L2, List.getD, h]
def okR (St Sy : Int) (r : S37) : Prop := 0 ≤ r.f0 ∧ r.f0 < Sy ∧ (r.f1 = -1 ∨ r.f1 = 1) ∧ -1 ≤ r.f2 ∧ r.f2 < St
instance decOkR (St Sy : Int) (r : S37) : Decidable (okR St Sy r) := by unfold okR; infer_instance
def okRb (St Sy : Int) (r : S37) : Bool := decide (okR St Sy r)
def okRow (St Sy : Int) (l : List S37) : Bool := decide ((l.length : Int) = Sy) && l.all (okRb St Sy)
def okM (St Sy : Int) (l : List (List S37)) : Bool := decide (1 ≤ St ∧ St ≤ 6 ∧ 2 ≤ Sy ∧ Sy ≤ 4 ∧ (l.length : Int) = St) && l.all (okRow St Sy)

theorem tv_row (St Sy : Int) (rules : List (List S37)) (row : List S37) (j : Nat) (B : Bool) (hr : row.length ≤ 100000000000000) (hB : Ev (fun k => tape_Valid.l0 k rules (rules.length : Int) (wrap64 ((j : Int) + 1)) St Sy rules) B) : ∀ (d i : Nat), i + d = row.length →
    Ev (fun k => tape_Valid.l1 k rules (rules.length : Int) (j : Int) row (row.length : Int) (i : Int) St Sy rules) ((row.drop i).all (okRb St Sy) && B) := by
  intro d
  induction d with
  | zero =>
    intro i hi
    rw [Ev_succ]
    simp only [tape_Valid.l1, Ev_ite, Ev_some, Ev_none]
    rw [if_neg (by omega), List.drop_eq_nil_of_le (by omega)]
    simpa using hB
  | succ d ih =>
    intro i hi
    have hlt : i < row.length := by omega
    have ih := ih (i + 1) (by omega)
    rw [drop_cons row i hlt, List.all_cons, Ev_succ]
    simp only [tape_Valid.l1, Ev_ite, Ev_some, Ev_none]
    rw [if_pos (by omega), if_pos (by omega), if_pos (by omega), rdT row i hlt, wrapn i (by omega)]
    generalize row[i] = x
    obtain ⟨f0, f1, f2⟩ := x
    simp only
    by_cases hok : okR St Sy ⟨f0, f1, f2⟩
    · rw [okRb, decide_eq_true hok, Bool.true_and]
      obtain ⟨h0, h1, h2, h3, h4⟩ := hok
      simp only at h0 h1 h2 h3 h4
      rw [if_neg (by omega), if_neg (by omega)]
      rcases h2 with h2 | h2
      · rw [if_pos h2, if_neg (by omega), if_neg (by omega)]
        exact ih
      · rw [if_neg (by omega), if_pos h2, if_neg (by omega), if_neg (by omega)]
        exact ih
    · rw [okRb, decide_eq_false hok, Bool.false_and, Bool.false_and]
      simp only [okR] at hok
      by_cases c0 : f0 < 0
      · rw [if_pos c0]
      rw [if_neg c0]
      by_cases c1 : f0 ≥ Sy
      · rw [if_pos c1]
      rw [if_neg c1]
      by_cases c2 : f1 = -1
      · rw [if_pos c2]
        by_cases c3 : f2 < -1
        · rw [if_pos c3]
        rw [if_neg c3]
        by_cases c4 : f2 ≥ St
        · rw [if_pos c4]
        · exact absurd ⟨by omega, by omega, .inl c2, by omega, by omega⟩ hok
      rw [if_neg c2]
      by_cases c5 : f1 = 1
      · rw [if_pos c5]
        by_cases c3 : f2 < -1
        · rw [if_pos c3]
        rw [if_neg c3]
        by_cases c4 : f2 ≥ St
        · rw [if_pos c4]
        · exact absurd ⟨by omega, by omega, .inr c5, by omega, by omega⟩ hok
      · rw [if_neg c5]
theorem tv_rows (St Sy : Int) (rules : List (List S37)) (hl : rules.length ≤ 100000000000000) (hr : ∀ r ∈ rules, r.length ≤ 100000000000000) : ∀ (d j : Nat), j + d = rules.length →
    Ev (fun k => tape_Valid.l0 k rules (rules.length : Int) (j : Int) St Sy rules) ((rules.drop j).all (okRow St Sy)) := by
  intro d
  induction d with
  | zero =>
    intro j hj
    rw [Ev_succ]
    simp only [tape_Valid.l0, Ev_ite, Ev_some, Ev_none]
    rw [if_neg (by omega), List.drop_eq_nil_of_le (by omega)]
    rfl
  | succ d ih =>
    intro j hj
    have hlt : j < rules.length := by omega
    have ih := ih (j + 1) (by omega)
    rw [drop_cons rules j hlt, List.all_cons, Ev_succ]
    simp only [tape_Valid.l0, Ev_ite, Ev_some, Ev_none]
    rw [if_pos (by omega), if_pos (by omega), if_pos (by omega), rdL rules j hlt]
    by_cases c : ((rules[j].length : Nat) : Int) = Sy
    · rw [if_pos c, okRow, decide_eq_true c, Bool.true_and]
      have := tv_row St Sy rules rules[j] j _ (hr _ (List.getElem_mem hlt)) (by rw [wrapn j (by omega)]; exact ih) rules[j].length 0 (by omega)
      simpa using this
    · rw [if_neg c, okRow, decide_eq_false c]
      rfl
theorem tv_f (St Sy : Int) (rules : List (List S37)) (hl : rules.length ≤ 100000000000000) (hr : ∀ r ∈ rules, r.length ≤ 100000000000000) : Ev (fun k => tape_Valid.f k St Sy rules) (okM St Sy rules) := by
  have hj : ∀ b, Ev (fun k => tape_Valid.j0 k b St Sy rules) (!b && rules.all (okRow St Sy)) := by
    intro b
    rw [Ev_succ]
    simp only [tape_Valid.j0, Ev_ite, Ev_some]
    cases b with
    | true => simp
    | false =>
      have := tv_rows St Sy rules hl hr rules.length 0 (by omega)
      simpa using this
  unfold tape_Valid.f okM
  simp only [Ev_ite]
  by_cases c : 1 ≤ St ∧ St ≤ 6 ∧ 2 ≤ Sy ∧ Sy ≤ 4
  · rw [if_neg (by omega), if_neg (by omega), if_neg (by omega), if_neg (by omega)]
    have := hj ((rules.length : Int) != St)
    by_cases e : (rules.length : Int) = St
    · rw [decide_eq_true ⟨c.1, c.2.1, c.2.2.1, c.2.2.2, e⟩]
      simpa [e] using this
    · rw [decide_eq_false (fun h => e h.2.2.2.2), Bool.false_and]
      have hb : ((rules.length : Int) != St) = true := by simp [e]
      rw [hb] at this ⊢
      simpa using this
  · have h := hj true
    rw [decide_eq_false (fun h => c ⟨h.1, h.2.1, h.2.2.1, h.2.2.2.1⟩), Bool.false_and]
    simp only [Bool.not_true, Bool.false_and] at h
    by_cases c0 : St < 1
    · rw [if_pos c0]; exact h
    rw [if_neg c0]
    by_cases c1 : St > 6
    · rw [if_pos c1]; exact h
    rw [if_neg c1]
    by_cases c2 : Sy < 2
    · rw [if_pos c2]; exact h
    rw [if_neg c2]
    by_cases c3 : Sy > 4
    · rw [if_pos c3]; exact h
    · exact absurd ⟨by omega, by omega, by omega, by omega⟩ c

theorem rv_row (St Sy : Int) (rules : List (List S37)) (j : Nat) (hj : j < rules.length) (B : Bool) (hS : ((rules[j].length : Nat) : Int) = Sy) (hr : rules[j].length ≤ 100000000000000) (hB : Ev (fun k => standstillref01_Valid.l0 k (wrap64 ((j : Int) + 1)) St Sy rules) B) : ∀ (d i : Nat), i + d = rules[j].length →
    Ev (fun k => standstillref01_Valid.l1 k (j : Int) (i : Int) St Sy rules) ((rules[j].drop i).all (okRb St Sy) && B) := by
  intro d
  induction d with
  | zero =>
    intro i hi
    rw [Ev_succ]
    simp only [standstillref01_Valid.l1, Ev_ite, Ev_some, Ev_none]
    rw [if_neg (by omega), List.drop_eq_nil_of_le (by omega)]
    simpa using hB
  | succ d ih =>
    intro i hi
    have hlt : i < rules[j].length := by omega
    have ih := ih (i + 1) (by omega)
    rw [drop_cons rules[j] i hlt, List.all_cons, Ev_succ]
    simp only [standstillref01_Valid.l1, Ev_ite, Ev_some, Ev_none]
    rw [if_pos (by omega), if_pos (by omega), if_pos (by omega), if_pos (by omega), rdL rules j hj, if_pos (by omega), rdT rules[j] i hlt, wrapn i (by omega)]
    generalize rules[j][i] = x
    obtain ⟨f0, f1, f2⟩ := x
    simp only
    by_cases hok : okR St Sy ⟨f0, f1, f2⟩
    · rw [okRb, decide_eq_true hok, Bool.true_and]
      obtain ⟨h0, h1, h2, h3, h4⟩ := hok
      simp only at h0 h1 h2 h3 h4
      rw [if_neg (by omega), if_neg (by omega)]
      rcases h2 with h2 | h2
      · rw [if_pos h2, if_neg (by omega), if_neg (by omega)]
        exact ih
      · rw [if_neg (by omega), if_pos h2, if_neg (by omega), if_neg (by omega)]
        exact ih
    · rw [okRb, decide_eq_false hok, Bool.false_and, Bool.false_and]
      simp only [okR] at hok
      by_cases c0 : f0 < 0
      · rw [if_pos c0]
      rw [if_neg c0]
      by_cases c1 : f0 ≥ Sy
      · rw [if_pos c1]
      rw [if_neg c1]
      by_cases c2 : f1 = -1
      · rw [if_pos c2]
        by_cases c3 : f2 < -1
        · rw [if_pos c3]
        rw [if_neg c3]
        by_cases c4 : f2 ≥ St
        · rw [if_pos c4]
        · exact absurd ⟨by omega, by omega, .inl c2, by omega, by omega⟩ hok
      rw [if_neg c2]
      by_cases c5 : f1 = 1
      · rw [if_pos c5]
        by_cases c3 : f2 < -1
        · rw [if_pos c3]
        rw [if_neg c3]
        by_cases c4 : f2 ≥ St
        · rw [if_pos c4]
        · exact absurd ⟨by omega, by omega, .inr c5, by omega, by omega⟩ hok
      · rw [if_neg c5]
theorem rv_rows (St Sy : Int) (rules : List (List S37)) (hSt : (rules.length : Int) = St) (hl : rules.length ≤ 100000000000000) (hr : ∀ r ∈ rules, r.length ≤ 100000000000000) : ∀ (d j : Nat), j + d = rules.length →
    Ev (fun k => standstillref01_Valid.l0 k (j : Int) St Sy rules) ((rules.drop j).all (okRow St Sy)) := by
  intro d
  induction d with
  | zero =>
    intro j hj
    rw [Ev_succ]
    simp only [standstillref01_Valid.l0, Ev_ite, Ev_some, Ev_none]
    rw [if_neg (by omega), List.drop_eq_nil_of_le (by omega)]
    rfl
  | succ d ih =>
    intro j hj
    have hlt : j < rules.length := by omega
    have ih := ih (j + 1) (by omega)
    rw [drop_cons rules j hlt, List.all_cons, Ev_succ]
    simp only [standstillref01_Valid.l0, Ev_ite, Ev_some, Ev_none]
    rw [if_pos (by omega), if_pos (by omega), if_pos (by omega), rdL rules j hlt]
    by_cases c : ((rules[j].length : Nat) : Int) = Sy
    · rw [if_pos c, okRow, decide_eq_true c, Bool.true_and]
      have := rv_row St Sy rules j hlt _ c (hr _ (List.getElem_mem hlt)) (by rw [wrapn j (by omega)]; exact ih) rules[j].length 0 (by omega)
      simpa using this
    · rw [if_neg c, okRow, decide_eq_false c]
      rfl
theorem rv_f (St Sy : Int) (rules : List (List S37)) (hl : rules.length ≤ 100000000000000) (hr : ∀ r ∈ rules, r.length ≤ 100000000000000) : Ev (fun k => standstillref01_Valid.f k St Sy rules) (okM St Sy rules) := by
  have hj0 : Ev (fun k => standstillref01_Valid.j0 k true St Sy rules) false := by
    rw [Ev_succ]
    simp [standstillref01_Valid.j0, Ev_ite, Ev_some]
  unfold standstillref01_Valid.f okM
  simp only [Ev_ite]
  by_cases c : 1 ≤ St ∧ St ≤ 6 ∧ 2 ≤ Sy ∧ Sy ≤ 4
  · rw [if_neg (by omega), if_neg (by omega), if_neg (by omega), if_neg (by omega)]
    by_cases e : (rules.length : Int) = St
    · rw [decide_eq_true ⟨c.1, c.2.1, c.2.2.1, c.2.2.2, e⟩, show ((rules.length : Int) != St) = false by simp [e], Ev_succ]
      simp only [standstillref01_Valid.j0, Ev_ite, Ev_some]
      rw [if_neg (by simp)]
      have := rv_rows St Sy rules e hl hr rules.length 0 (by omega)
      simpa using this
    · rw [decide_eq_false (fun h => e h.2.2.2.2), show ((rules.length : Int) != St) = true by simp [e]]
      exact hj0
  · rw [decide_eq_false (fun h => c ⟨h.1, h.2.1, h.2.2.1, h.2.2.2.1⟩), Bool.false_and]
    by_cases c0 : St < 1
    · rw [if_pos c0]; exact hj0
    rw [if_neg c0]
    by_cases c1 : St > 6
    · rw [if_pos c1]; exact hj0
    rw [if_neg c1]
    by_cases c2 : Sy < 2
    · rw [if_pos c2]; exact hj0
    rw [if_neg c2]
    by_cases c3 : Sy > 4
    · rw [if_pos c3]; exact hj0
    · exact absurd ⟨by omega, by omega, by omega, by omega⟩ c

/-- The mirrored machine. -/
def mir (r : S37) : S37 := ⟨r.f0, wrap64 (-r.f1), r.f2⟩
def mirM (l : List (List S37)) : List (List S37) := l.map (·.map mir)
theorem tm_row (rules acc : List (List S37)) (row : List S37) (j : Nat) (x y : Int) (R : Int × Int × List (List S37) × Int) (hr : row.length ≤ 100000000000000) (ha : acc.length < 5864062014805)
    (hB : Ev (fun k => tape_Mirror.l0 k rules (rules.length : Int) (wrap64 ((j : Int) + 1)) x y (acc ++ [row.map mir])) R) : ∀ (d i : Nat), i + d = row.length →
    Ev (fun k => tape_Mirror.l1 k ((row.take i).map mir ++ row.drop i) rules (rules.length : Int) (j : Int) (row.length : Int) (i : Int) x y acc) R := by
  intro d
  induction d with
  | zero =>
    intro i hi
    rw [Ev_succ]
    simp only [tape_Mirror.l1, Ev_ite, Ev_some, Ev_none]
    rw [if_neg (by omega), if_pos ha, List.drop_eq_nil_of_le (by omega), List.take_of_length_le (by omega), List.append_nil]
    exact hB
  | succ d ih =>
    intro i hi
    have hlt : i < row.length := by omega
    have ih := ih (i + 1) (by omega)
    have hA : ((row.take i).map mir).length = i := by simp; omega
    rw [Ev_succ]
    simp only [tape_Mirror.l1, Ev_ite, Ev_some, Ev_none]
    have hlen : ((row.take i).map mir ++ row.drop i).length = row.length := by simp; omega
    rw [if_pos (by omega), if_pos (by omega), if_pos (by rw [hlen]; omega), wrapn i (by omega), rdT _ i (by rw [hlen]; exact hlt)]
    have hget : ((row.take i).map mir ++ row.drop i)[i]'(by rw [hlen]; exact hlt) = row[i] := by
      rw [List.getElem_append_right (by omega), List.getElem_drop]
      congr 1
      omega
    rw [hget, Int.toNat_natCast, List.set_append_right _ _ (by omega), hA, Nat.sub_self, drop_cons row i hlt, List.set_cons_zero]
    rw [take_snoc row i hlt, List.map_append, List.append_assoc] at ih
    exact ih
theorem tm_rows (rules : List (List S37)) (x y : Int) (hl : rules.length ≤ 1000000) (hr : ∀ r ∈ rules, r.length ≤ 1000000) : ∀ (d j : Nat), j + d = rules.length →
    Ev (fun k => tape_Mirror.l0 k rules (rules.length : Int) (j : Int) x y (mirM (rules.take j))) (x, y, mirM rules, 0) := by
  intro d
  induction d with
  | zero =>
    intro j hj
    rw [Ev_succ]
    simp only [tape_Mirror.l0, Ev_ite, Ev_some, Ev_none]
    rw [if_neg (by omega), List.take_of_length_le (by omega)]
  | succ d ih =>
    intro j hj
    have hlt : j < rules.length := by omega
    have ih := ih (j + 1) (by omega)
    rw [Ev_succ]
    simp only [tape_Mirror.l0, Ev_ite, Ev_some, Ev_none]
    rw [if_pos (by omega), if_pos (by omega), if_pos (by omega), rdL rules j hlt]
    have h1 := hr _ (List.getElem_mem hlt)
    rw [Ev_bind (a := rules[j]) (by unfold api_Rule.f; rw [if_pos (by omega)]; exact Ev.now _)]
    have e : mirM (rules.take (j + 1)) = mirM (rules.take j) ++ [rules[j].map mir] := by rw [take_snoc rules j hlt]; simp only [mirM, List.map_append, List.map_cons, List.map_nil]
    rw [e] at ih
    have := tm_row rules (mirM (rules.take j)) rules[j] j x y _ (by omega) (by unfold mirM; simp; omega) (by rw [wrapn j (by omega)]; exact ih) rules[j].length 0 (by omega)
    simpa using this
theorem okM_len {St Sy : Int} {rules : List (List S37)} (h : okM St Sy rules = true) : 1 ≤ St ∧ St ≤ 6 ∧ 2 ≤ Sy ∧ Sy ≤ 4 ∧ (rules.length : Int) = St ∧ ∀ r ∈ rules, (r.length : Int) = Sy ∧ ∀ x ∈ r, okR St Sy x := by
  unfold okM at h
  simp only [Bool.and_eq_true, decide_eq_true_eq, List.all_eq_true] at h
  refine ⟨h.1.1, h.1.2.1, h.1.2.2.1, h.1.2.2.2.1, h.1.2.2.2.2, fun r hr => ?_⟩
  have := h.2 r hr
  simp only [okRow, okRb, Bool.and_eq_true, decide_eq_true_eq, List.all_eq_true] at this
  exact this
theorem mir_neg {St Sy : Int} {r : S37} (h : okR St Sy r) : mir r = ⟨r.f0, -r.f1, r.f2⟩ := by
  unfold mir
  rw [wrap_id (by rcases h.2.2.1 with e | e <;> omega) (by rcases h.2.2.1 with e | e <;> omega)]
theorem okM_mir {St Sy : Int} {rules : List (List S37)} (h : okM St Sy rules = true) : okM St Sy (mirM rules) = true := by
  obtain ⟨h1, h2, h3, h4, h5, h6⟩ := okM_len h
  unfold okM mirM
  simp only [Bool.and_eq_true, decide_eq_true_eq, List.all_eq_true, List.length_map]
  refine ⟨⟨h1, h2, h3, h4, h5⟩, fun r hr => ?_⟩
  obtain ⟨r0, hr0, rfl⟩ := List.mem_map.1 hr
  obtain ⟨h7, h8⟩ := h6 r0 hr0
  simp only [okRow, okRb, Bool.and_eq_true, decide_eq_true_eq, List.all_eq_true, List.length_map]
  refine ⟨h7, fun x hx => ?_⟩
  obtain ⟨x0, hx0, rfl⟩ := List.mem_map.1 hx
  have h9 := h8 x0 hx0
  rw [mir_neg h9]
  obtain ⟨g0, g1, g2, g3, g4⟩ := h9
  exact ⟨g0, g1, by simp only; omega, g3, g4⟩
theorem mirM_mirM {St Sy : Int} {rules : List (List S37)} (h : okM St Sy rules = true) : mirM (mirM rules) = rules := by
  obtain ⟨_, _, _, _, _, h6⟩ := okM_len h
  unfold mirM
  rw [List.map_map]
  conv => rhs; rw [← List.map_id rules]
  refine List.map_congr_left fun r hr => ?_
  simp only [Function.comp, List.map_map, id]
  conv => rhs; rw [← List.map_id r]
  refine List.map_congr_left fun x hx => ?_
  have h9 := (h6 r hr).2 x hx
  simp only [Function.comp, id, mir_neg h9]
  obtain ⟨f0, f1, f2⟩ := x
  have := h9.2.2.1
  simp only at this
  unfold mir
  simp only
  rw [wrap_id (by omega) (by omega), Int.neg_neg]
theorem tm_f {St Sy : Int} {rules : List (List S37)} (h : okM St Sy rules = true) : Ev (fun k => tape_Mirror.f k St Sy rules) (St, Sy, mirM rules, 0) := by
  obtain ⟨h1, h2, h3, h4, h5, h6⟩ := okM_len h
  unfold tape_Mirror.f
  rw [Ev_bind (tv_f St Sy rules (by omega) (fun r hr => by have := (h6 r hr).1; omega)), h]
  simp only [if_true]
  have := tm_rows rules St Sy (by omega) (fun r hr => by have := (h6 r hr).1; omega) rules.length 0 (by omega)
  simpa [mirM] using this

theorem rd75 (l : List S75) (i : Nat) (h : i < l.length) : rd_T75 l (i : Int) = l[i] := by
  simp [rd_T75, List.getD, h]
def okRun (r : S75) : Prop := 1 ≤ r.f1 ∧ r.f1 ≤ 1152921504606846976
theorem side_loop (Sy : Int) (l : List S75) (hl : l.length ≤ 10000000000000) : ∀ (d i : Nat), i + d = l.length →
    ∃ b, Ev (fun k => leap_side.l0 k Sy l l (l.length : Int) (i : Int)) b ∧ (b = true → ∀ r ∈ l.drop i, okRun r) := by
  intro d
  induction d with
  | zero =>
    intro i hi
    refine ⟨true, ?_, fun _ r hr => ?_⟩
    · rw [Ev_succ]
      simp only [leap_side.l0, Ev_ite, Ev_none]
      rw [if_neg (by omega)]
      exact Ev.now _
    · rw [List.drop_eq_nil_of_le (by omega)] at hr
      cases hr
  | succ d ih =>
    intro i hi
    have hlt : i < l.length := by omega
    obtain ⟨b, ih, ihb⟩ := ih (i + 1) (by omega)
    have no : ∀ (P : Prop), (false = true → P) := fun P h => by cases h
    by_cases c0 : l[i].f0 < 0
    · refine ⟨false, ?_, no _⟩
      rw [Ev_succ]
      simp only [leap_side.l0, Ev_ite, Ev_none]
      rw [if_pos (by omega), if_pos (by omega), if_pos (by omega), rd75 l i hlt, if_pos c0]
      exact Ev.now _
    by_cases c1 : l[i].f0 ≥ Sy
    · refine ⟨false, ?_, no _⟩
      rw [Ev_succ]
      simp only [leap_side.l0, Ev_ite, Ev_none]
      rw [if_pos (by omega), if_pos (by omega), if_pos (by omega), rd75 l i hlt, if_neg c0, if_pos c1]
      exact Ev.now _
    by_cases c2 : l[i].f1 < 1
    · refine ⟨false, ?_, no _⟩
      rw [Ev_succ]
      simp only [leap_side.l0, Ev_ite, Ev_none]
      rw [if_pos (by omega), if_pos (by omega), if_pos (by omega), rd75 l i hlt, if_neg c0, if_neg c1, if_pos c2]
      exact Ev.now _
    by_cases c3 : l[i].f1 > 1152921504606846976
    · refine ⟨false, ?_, no _⟩
      rw [Ev_succ]
      simp only [leap_side.l0, Ev_ite, Ev_none]
      rw [if_pos (by omega), if_pos (by omega), if_pos (by omega), rd75 l i hlt, if_neg c0, if_neg c1, if_neg c2, if_pos c3]
      exact Ev.now _
    have hok : okRun l[i] := ⟨by omega, by omega⟩
    have hall : b = true → ∀ r ∈ l.drop i, okRun r := by
      intro hb r hr
      rw [drop_cons l i hlt] at hr
      cases hr with
      | head => exact hok
      | tail _ h => exact ihb hb r h
    by_cases c4 : (i : Int) > 0
    · have e : wrap64 ((i : Int) - 1) = ((i - 1 : Nat) : Int) := by rw [wrap_id (by omega) (by omega)]; omega
      by_cases c5 : l[i - 1].f0 = l[i].f0
      · refine ⟨false, ?_, no _⟩
        rw [Ev_succ]
        simp only [leap_side.l0, Ev_ite, Ev_none]
        rw [if_pos (by omega), if_pos (by omega), if_pos (by omega), rd75 l i hlt, if_neg c0, if_neg c1, if_neg c2, if_neg c3, if_pos c4, e, if_pos (by omega), if_pos (by omega), rd75 l (i - 1) (by omega), if_pos c5]
        exact Ev.now _
      · refine ⟨b, ?_, hall⟩
        rw [Ev_succ]
        simp only [leap_side.l0, Ev_ite, Ev_none]
        rw [if_pos (by omega), if_pos (by omega), if_pos (by omega), rd75 l i hlt, if_neg c0, if_neg c1, if_neg c2, if_neg c3, if_pos c4, e, if_pos (by omega), if_pos (by omega), rd75 l (i - 1) (by omega), if_neg c5, wrapn i (by omega)]
        exact ih
    · refine ⟨b, ?_, hall⟩
      rw [Ev_succ]
      simp only [leap_side.l0, Ev_ite, Ev_none]
      rw [if_pos (by omega), if_pos (by omega), if_pos (by omega), rd75 l i hlt, if_neg c0, if_neg c1, if_neg c2, if_neg c3, if_neg c4, wrapn i (by omega)]
      exact ih
theorem side_tot (Sy : Int) (l : List S75) (hl : l.length ≤ 10000000000000) : ∃ b, Ev (fun k => leap_side.f k Sy l) b ∧ (b = true → l.length ≤ 2000 ∧ ∀ r ∈ l, okRun r) := by
  obtain ⟨b, hb, hp⟩ := side_loop Sy l hl l.length 0 (by omega)
  have no : ∀ (P : Prop), (false = true → P) := fun P h => by cases h
  have hj1 : Ev (fun k => leap_side.j0 k Sy l true) false := by
    rw [Ev_succ]
    simp [leap_side.j0, Ev_some]
  have hj0 : Ev (fun k => leap_side.j0 k Sy l false) b := by
    rw [Ev_succ]
    simp only [leap_side.j0, Ev_ite, Ev_some]
    simpa using hb
  by_cases c : (l.length : Int) > 2000
  · refine ⟨false, ?_, no _⟩
    simp only [leap_side.f, Ev_ite, Ev_none]
    rw [if_pos c]
    exact hj1
  by_cases c1 : (l.length : Int) > 0
  · have e : wrap64 ((l.length : Int) - 1) = ((l.length - 1 : Nat) : Int) := by rw [wrap_id (by omega) (by omega)]; omega
    cases hz : (l[l.length - 1].f0 == 0) with
    | true =>
      refine ⟨false, ?_, no _⟩
      simp only [leap_side.f, Ev_ite, Ev_none]
      rw [if_neg c, if_pos c1, e, if_pos (by omega), if_pos (by omega), rd75 l _ (by omega), hz]
      exact hj1
    | false =>
      refine ⟨b, ?_, fun h => ⟨by omega, by simpa using hp h⟩⟩
      simp only [leap_side.f, Ev_ite, Ev_none]
      rw [if_neg c, if_pos c1, e, if_pos (by omega), if_pos (by omega), rd75 l _ (by omega), hz]
      exact hj0
  · refine ⟨b, ?_, fun h => ⟨by omega, by simpa using hp h⟩⟩
    simp only [leap_side.f, Ev_ite, Ev_none]
    rw [if_neg c, if_neg c1]
    exact hj0
def okT (St Sy st po sy : Int) (lf rt : List S75) : Prop := -1 ≤ st ∧ st < St ∧ 0 ≤ sy ∧ sy < Sy ∧ -1152921504606846976 ≤ po ∧ po ≤ 1152921504606846976 ∧ (lf.length ≤ 2000 ∧ ∀ r ∈ lf, okRun r) ∧ (rt.length ≤ 2000 ∧ ∀ r ∈ rt, okRun r)
theorem fits_tot (St Sy st po sy : Int) (lf rt : List S75) (hl : lf.length ≤ 10000000000000) (hr : rt.length ≤ 10000000000000) (hp : -9223372036854775808 ≤ po ∧ po ≤ 9223372036854775807) :
    ∃ b, Ev (fun k => leap_fits.f k St Sy st po sy lf rt) b ∧ Ev (fun k => leap_fits.f k St Sy st (wrap64 (-po)) sy rt lf) b ∧ (b = true → okT St Sy st po sy lf rt) := by
  obtain ⟨b1, e1, p1⟩ := side_tot Sy lf hl
  obtain ⟨b2, e2, p2⟩ := side_tot Sy rt hr
  have no : ∀ (P : Prop), (false = true → P) := fun P h => by cases h
  have jt : ∀ po lf rt, Ev (fun k => leap_fits.j0 k Sy true st po sy lf rt) false := by
    intro po lf rt
    rw [Ev_succ]
    simp [leap_fits.j0, Ev_some]
  have jf : ∀ po lf rt b1 b2, Ev (fun k => leap_side.f k Sy lf) b1 → Ev (fun k => leap_side.f k Sy rt) b2 → Ev (fun k => leap_fits.j0 k Sy false st po sy lf rt) (b1 && b2) := by
    intro po lf rt b1 b2 h1 h2
    rw [Ev_succ]
    simp only [leap_fits.j0, Ev_ite, Bool.false_eq_true, if_false]
    rw [Ev_bind h1]
    simp only [Ev_ite, Ev_some]
    cases b1 with
    | true => simp only [if_true]; rw [Ev_bind h2, Ev_some]; simp
    | false => simp
  have hneg : ¬ (po < -1152921504606846976 ∨ po > 1152921504606846976) → wrap64 (-po) = -po := fun h => wrap_id (by omega) (by omega)
  have hout : (po < -1152921504606846976 ∨ po > 1152921504606846976) → (wrap64 (-po) < -1152921504606846976 ∨ wrap64 (-po) > 1152921504606846976) := by
    intro h
    by_cases c : po = -9223372036854775808
    · subst c
      left
      unfold wrap64
      omega
    · rw [wrap_id (by omega) (by omega)]
      omega
  generalize wrap64 (-po) = pm at hneg hout
  simp only [leap_fits.f, Ev_ite]
  by_cases c1 : st < -1
  · exact ⟨false, by rw [if_pos c1]; exact jt _ _ _, by rw [if_pos c1]; exact jt _ _ _, no _⟩
  by_cases c2 : st ≥ St
  · exact ⟨false, by rw [if_neg c1, if_pos c2]; exact jt _ _ _, by rw [if_neg c1, if_pos c2]; exact jt _ _ _, no _⟩
  by_cases c3 : sy < 0
  · exact ⟨false, by rw [if_neg c1, if_neg c2, if_pos c3]; exact jt _ _ _, by rw [if_neg c1, if_neg c2, if_pos c3]; exact jt _ _ _, no _⟩
  by_cases c4 : sy ≥ Sy
  · exact ⟨false, by rw [if_neg c1, if_neg c2, if_neg c3, if_pos c4]; exact jt _ _ _, by rw [if_neg c1, if_neg c2, if_neg c3, if_pos c4]; exact jt _ _ _, no _⟩
  simp only [if_neg c1, if_neg c2, if_neg c3, if_neg c4]
  by_cases c5 : po < -1152921504606846976 ∨ po > 1152921504606846976
  · have c6 := hout c5
    refine ⟨false, ?_, ?_, no _⟩
    · rcases c5 with c5 | c5
      · rw [if_pos c5]; exact jt _ _ _
      · rw [if_neg (by omega), decide_eq_true c5]; exact jt _ _ _
    · rcases c6 with c5 | c5
      · rw [if_pos c5]; exact jt _ _ _
      · rw [if_neg (by omega), decide_eq_true c5]; exact jt _ _ _
  · have c6 := hneg c5
    refine ⟨b1 && b2, ?_, ?_, ?_⟩
    · rw [if_neg (by omega), decide_eq_false (by omega)]
      exact jf _ _ _ _ _ e1 e2
    · rw [if_neg (by omega), decide_eq_false (by omega), Bool.and_comm]
      exact jf _ _ _ _ _ e2 e1
    · intro h
      rw [Bool.and_eq_true] at h
      exact ⟨by omega, by omega, by omega, by omega, by omega, by omega, p1 h.1, p2 h.2⟩
theorem before_tot (x c : Int) (l : List S75) (h : l.length ≤ 3000) : ∃ o, leap_before.g x c l = some o ∧ o.length ≤ l.length + 1 := by
  unfold leap_before.g
  rw [if_pos (by omega)]
  split
  · exact ⟨_, rfl, by omega⟩
  split
  · exact ⟨_, rfl, by omega⟩
  split
  · split
    · exact ⟨_, rfl, by simp⟩
    · exact ⟨_, rfl, by simp⟩
  · exact ⟨_, rfl, by simp⟩
theorem split_tot (l : List S75) (h : l.length ≤ 3000) : ∃ o, leap_split.g l = some o ∧ o.2.length ≤ l.length := by
  unfold leap_split.g
  rw [if_pos (by omega)]
  split
  · exact ⟨_, rfl, by simp⟩
  split
  · exact ⟨_, rfl, by simp⟩
  · exact ⟨_, rfl, by simp⟩
theorem ahead_tot (nx st sy : Int) (l : List S75) (h : ∀ r ∈ l, okRun r) : leap_ahead nx st sy l = none ∨ ∃ k a, leap_ahead nx st sy l = some (k, a) ∧ 1 ≤ k ∧ k ≤ 1152921504606846977 ∧ a.length ≤ l.length := by
  unfold leap_ahead
  split
  · split
    · exact .inl rfl
    · split
      · rename_i c
        have hm : rd_T75 l 0 = l[0]'c.1 := rd75 l 0 c.1
        have ho := h _ (List.getElem_mem c.1)
        rw [← hm] at ho
        obtain ⟨h1, h2⟩ := ho
        have e : wrap64 (1 + (rd_T75 l 0).f1) = 1 + (rd_T75 l 0).f1 := wrap_id (by omega) (by omega)
        rw [e]
        exact .inr ⟨_, _, rfl, by omega, by omega, by simp⟩
      · exact .inr ⟨_, _, rfl, by omega, by omega, by simp⟩
  · exact .inr ⟨_, _, rfl, by omega, by omega, by simp⟩
theorem rule_at {St Sy : Int} {rules : List (List S37)} (h : okM St Sy rules = true) (st sy : Int) (h0 : 0 ≤ st) (h1 : st < St) (h2 : 0 ≤ sy) (h3 : sy < Sy) :
    st < (rules.length : Int) ∧ sy < ((rd_L2 rules st).length : Int) ∧ okR St Sy (rd_T37 (rd_L2 rules st) sy) ∧ st < ((mirM rules).length : Int) ∧ sy < ((rd_L2 (mirM rules) st).length : Int) ∧ rd_T37 (rd_L2 (mirM rules) st) sy = mir (rd_T37 (rd_L2 rules st) sy) := by
  obtain ⟨a1, a2, a3, a4, a5, a6⟩ := okM_len h
  obtain ⟨s, rfl⟩ := Int.eq_ofNat_of_zero_le h0
  obtain ⟨y, rfl⟩ := Int.eq_ofNat_of_zero_le h2
  have hs : s < rules.length := by omega
  have hs' : s < (mirM rules).length := by simpa [mirM] using hs
  rw [rdL rules s hs, rdL (mirM rules) s hs']
  obtain ⟨b1, b2⟩ := a6 _ (List.getElem_mem hs)
  have hy : y < rules[s].length := by omega
  have em : (mirM rules)[s] = rules[s].map mir := by simp [mirM]
  rw [em, rdT _ y hy, rdT _ y (by simpa using hy)]
  exact ⟨by omega, by omega, b2 _ (List.getElem_mem hy), by omega, by simp; omega, by simp⟩
def mirT (o : Int × Int × Int × List S75 × List S75 × Int × Bool) : Int × Int × Int × List S75 × List S75 × Int × Bool := (o.1, -o.2.1, o.2.2.1, o.2.2.2.2.1, o.2.2.2.1, o.2.2.2.2.2.1, o.2.2.2.2.2.2)
theorem leap_mir {St Sy : Int} {rules : List (List S37)} (h : okM St Sy rules = true) (st po sy : Int) (lf rt : List S75) (h0 : 0 ≤ st) (ht : okT St Sy st po sy lf rt) :
    ∃ o, leap_leap.g rules st po sy lf rt = some o ∧ leap_leap.g (mirM rules) st (-po) sy rt lf = some (mirT o) ∧ o.2.2.2.1.length ≤ 2001 ∧ o.2.2.2.2.1.length ≤ 2001 ∧ -9000000000000000000 ≤ o.2.1 ∧ o.2.1 ≤ 9000000000000000000 := by
  obtain ⟨t1, t2, t3, t4, t5, t6, ⟨t7, t8⟩, ⟨t9, t10⟩⟩ := ht
  obtain ⟨r1, r2, r3, r4, r5, r6⟩ := rule_at h st sy h0 t2 t3 t4
  unfold leap_leap.g
  have C1 : 0 ≤ st ∧ st < (rules.length : Int) ∧ 0 ≤ sy ∧ sy < ((rd_L2 rules st).length : Int) ∧ lf.length < 7000000000000 ∧ rt.length < 7000000000000 := ⟨h0, r1, t3, r2, by omega, by omega⟩
  have C2 : 0 ≤ st ∧ st < ((mirM rules).length : Int) ∧ 0 ≤ sy ∧ sy < ((rd_L2 (mirM rules) st).length : Int) ∧ rt.length < 7000000000000 ∧ lf.length < 7000000000000 := ⟨h0, r4, t3, r5, by omega, by omega⟩
  rw [if_pos C1, if_pos C2, r6, mir_neg r3]
  have a1 : ((-1 : Int) < 0) = True := eq_true (by decide)
  have a2 : ((- -1 : Int) < 0) = False := eq_false (by decide)
  have a3 : ((1 : Int) < 0) = False := eq_false (by decide)
  generalize rd_T37 (rd_L2 rules st) sy = r at r3
  obtain ⟨f0, f1, f2⟩ := r
  obtain ⟨q1, q2, q3, q4, q5⟩ := r3
  simp only at q1 q2 q3 q4 q5 ⊢
  rcases q3 with rfl | rfl
  · simp only [a1, a2, if_true, if_false]
    rcases ahead_tot f2 st sy lf t8 with e | ⟨k, a, e, e1, e2, e3⟩
    · rw [e]
      exact ⟨_, rfl, rfl, by simp only; omega, by simp only; omega, by simp only; omega, by simp only; omega⟩
    · rw [e]
      obtain ⟨bh, hb, hbl⟩ := before_tot f0 k rt (by omega)
      obtain ⟨s, hs, hsl⟩ := split_tot a (by omega)
      have w1 : wrap64 (-1 * k) = -k := by rw [wrap_id (by omega) (by omega)]; omega
      have w2 : wrap64 (- -1 * k) = k := by rw [wrap_id (by omega) (by omega)]; omega
      have w3 : wrap64 (po + -k) = po - k := by rw [wrap_id (by omega) (by omega)]; omega
      have w4 : wrap64 (-po + k) = -(po - k) := by rw [wrap_id (by omega) (by omega)]; omega
      simp only [hb, hs, Option.bind_some, w1, w2, w3, w4]
      have C3 : bh.length < 8000000000000 ∧ s.2.length < 8000000000000 := ⟨by omega, by omega⟩
      rw [if_pos C3, if_pos C3]
      exact ⟨_, rfl, by rfl, by simp only; omega, by simp only; omega, by simp only; omega, by simp only; omega⟩
  · simp only [a1, a3, if_true, if_false]
    rcases ahead_tot f2 st sy rt t10 with e | ⟨k, a, e, e1, e2, e3⟩
    · rw [e]
      exact ⟨_, rfl, rfl, by simp only; omega, by simp only; omega, by simp only; omega, by simp only; omega⟩
    · rw [e]
      obtain ⟨bh, hb, hbl⟩ := before_tot f0 k lf (by omega)
      obtain ⟨s, hs, hsl⟩ := split_tot a (by omega)
      have w1 : wrap64 (1 * k) = k := by rw [wrap_id (by omega) (by omega)]; omega
      have w2 : wrap64 (-1 * k) = -k := by rw [wrap_id (by omega) (by omega)]; omega
      have w3 : wrap64 (po + k) = po + k := by rw [wrap_id (by omega) (by omega)]
      have w4 : wrap64 (-po + -k) = -(po + k) := by rw [wrap_id (by omega) (by omega)]; omega
      simp only [hb, hs, Option.bind_some, w1, w2, w3, w4]
      have C3 : bh.length < 8000000000000 ∧ s.2.length < 8000000000000 := ⟨by omega, by omega⟩
      rw [if_pos C3, if_pos C3]
      exact ⟨_, rfl, by rfl, by simp only; omega, by simp only; omega, by simp only; omega, by simp only; omega⟩
abbrev Res4 := Int × Int × Int × List S75 × List S75 × Int × Int × Bool × Int
def mirR (o : Res4) : Res4 := (o.1, -o.2.1, o.2.2.1, o.2.2.2.2.1, o.2.2.2.1, o.2.2.2.2.2)
def smallR (o : Res4) : Prop := -9000000000000000000 ≤ o.2.1 ∧ o.2.1 ≤ 9000000000000000000 ∧ o.2.2.2.1.length ≤ 10000 ∧ o.2.2.2.2.1.length ≤ 10000
theorem go_mir {St Sy : Int} {rules : List (List S37)} (h : okM St Sy rules = true) : ∀ (m : Nat) (i tot st po sy : Int) (lf rt : List S75), okT St Sy st po sy lf rt →
    ∃ o, Ev (fun k => leap_Leaps.go k St Sy rules m i tot st po sy lf rt) o ∧ Ev (fun k => leap_Leaps.go k St Sy (mirM rules) m i tot st (-po) sy rt lf) (mirR o) ∧ smallR o := by
  intro m
  induction m with
  | zero =>
    intro i tot st po sy lf rt ht
    have ht' := ht
    obtain ⟨t1, t2, t3, t4, t5, t6, ⟨t7, t8⟩, ⟨t9, t10⟩⟩ := ht'
    refine ⟨_, by simp only [leap_Leaps.go]; exact Ev.now _, by simp only [leap_Leaps.go]; exact Ev.now _, ?_⟩
    exact ⟨by simp only; omega, by simp only; omega, by simp only; omega, by simp only; omega⟩
  | succ m ih =>
    intro i tot st po sy lf rt ht
    have ht' := ht
    obtain ⟨t1, t2, t3, t4, t5, t6, ⟨t7, t8⟩, ⟨t9, t10⟩⟩ := ht'
    simp only [leap_Leaps.go, Ev_ite]
    by_cases c : st = -1
    · simp only [if_pos c]
      exact ⟨_, Ev.now _, Ev.now _, by simp only; omega, by simp only; omega, by simp only; omega, by simp only; omega⟩
    simp only [if_neg c]
    obtain ⟨o, e1, e2, l1, l2, l3, l4⟩ := leap_mir h st po sy lf rt (by omega) ht
    rw [e1, e2]
    obtain ⟨o1, o2, o3, o4, o5, o6, o7⟩ := o
    simp only [mirT] at l1 l2 l3 l4 ⊢
    simp only [Option.bind_some, Ev_ite]
    cases o7 with
    | true =>
      simp only [if_true]
      exact ⟨_, Ev.now _, Ev.now _, by simp only; omega, by simp only; omega, by simp only; omega, by simp only; omega⟩
    | false =>
      simp only [Bool.false_eq_true, if_false]
      obtain ⟨b, f1, f2, f3⟩ := fits_tot St Sy o1 o2 o3 o4 o5 (by omega) (by omega) (by omega)
      rw [wrap_id (by omega) (by omega)] at f2
      have zero : smallR ((0, 0, 0, [], [], 0, 0, false, 4) : Res4) := ⟨by simp, by simp, by simp, by simp⟩
      cases b with
      | false =>
        refine ⟨(0, 0, 0, [], [], 0, 0, false, 4), ?_, ?_, zero⟩
        · rw [Ev_bind f1]
          simp only [Bool.false_eq_true, if_false]
          exact Ev.now _
        · rw [Ev_bind f2]
          simp only [Bool.false_eq_true, if_false]
          exact Ev.now _
      | true =>
        have ht2 := f3 rfl
        by_cases c2 : wrap64 (tot + o6) > 1152921504606846976
        · refine ⟨(0, 0, 0, [], [], 0, 0, false, 4), ?_, ?_, zero⟩
          · rw [Ev_bind f1]
            simp only [if_true, if_pos c2]
            exact Ev.now _
          · rw [Ev_bind f2]
            simp only [if_true, if_pos c2]
            exact Ev.now _
        · obtain ⟨r, i1, i2, i3⟩ := ih (i + 1) (wrap64 (tot + o6)) o1 o2 o3 o4 o5 ht2
          refine ⟨r, ?_, ?_, i3⟩
          · rw [Ev_bind f1]
            simp only [if_true, if_neg c2]
            exact i1
          · rw [Ev_bind f2]
            simp only [if_true, if_neg c2]
            exact i2
theorem same_runs (l : List S75) (hl : l.length ≤ 100000) : Ev (fun k => standstillref04_SameRuns.f k l l) true := by
  have H : ∀ (d i : Nat), i + d = l.length → Ev (fun k => standstillref04_SameRuns.l0 k l l (i : Int)) true := by
    intro d
    induction d with
    | zero =>
      intro i hi
      rw [Ev_succ]
      simp only [standstillref04_SameRuns.l0, Ev_ite, Ev_none]
      rw [if_neg (by omega)]
      exact Ev.now _
    | succ d ih =>
      intro i hi
      have ih := ih (i + 1) (by omega)
      rw [Ev_succ]
      simp only [standstillref04_SameRuns.l0, Ev_ite, Ev_none]
      rw [if_pos (by omega), if_pos (by omega), if_pos (by omega), if_neg (by simp), wrapn i (by omega)]
      exact ih
  simp only [standstillref04_SameRuns.f, if_true]
  exact H l.length 0 (by omega)
theorem same_ev (a b c : Int) (l r : List S75) (hl : l.length ≤ 100000) (hr : r.length ≤ 100000) : Ev (fun k => standstillref04_Same.f k a b c l r a b c l r) true := by
  simp only [standstillref04_Same.f, if_true]
  rw [Ev_bind (same_runs l hl)]
  simp only [if_true]
  rw [Ev_bind (same_runs r hr)]
  exact Ev.now _
theorem wide_tot (rules : List (List S37)) (x y : Int) (hl : rules.length ≤ 10000000000000) (hr : ∀ r ∈ rules, r.length ≤ 10000000000000) : ∀ (d i : Nat) (n : Int), i + d = rules.length → 0 ≤ n → n ≤ 100000000000000000 →
    ∃ b, Ev (fun k => standstilllaw04_wide.l0 k n (i : Int) x y rules) b ∧ (b = false → n ≤ 5000) := by
  intro d
  induction d with
  | zero =>
    intro i n hi h0 h1
    refine ⟨decide (n > 5000), ?_, fun h => by have := of_decide_eq_false h; omega⟩
    rw [Ev_succ]
    simp only [standstilllaw04_wide.l0, Ev_ite, Ev_none]
    rw [if_neg (by omega)]
    exact Ev.now _
  | succ d ih =>
    intro i n hi h0 h1
    have hlt : i < rules.length := by omega
    by_cases c : n ≤ 5000
    · have hm := hr _ (List.getElem_mem hlt)
      have e : wrap64 (n + (rules[i].length : Int)) = n + (rules[i].length : Int) := wrap_id (by omega) (by omega)
      obtain ⟨b, hb, _⟩ := ih (i + 1) (n + (rules[i].length : Int)) (by omega) (by omega) (by omega)
      refine ⟨b, ?_, fun _ => c⟩
      rw [Ev_succ]
      simp only [standstilllaw04_wide.l0, Ev_ite, Ev_none]
      rw [if_pos (by omega), if_pos c, if_pos (by omega), rdL rules i hlt, e, wrapn i (by omega)]
      exact hb
    · refine ⟨decide (n > 5000), ?_, fun h => by have := of_decide_eq_false h; omega⟩
      rw [Ev_succ]
      simp only [standstilllaw04_wide.l0, Ev_ite, Ev_none]
      rw [if_pos (by omega), if_neg c]
      exact Ev.now _
theorem awake_ev : Ev standstilllaw04_awake.g true := Ev.of (k := 60) standstilllaw04_awake.mono_g (by decide +kernel)
theorem LeapMirror : standstilllaw04_LeapMirror.Pure := by
  intro St Sy rules st po sy lf rt n _ _ hrl _ hpo _ hlf hrt hn
  apply Ev.rounds
  obtain ⟨hl, hr⟩ := hrl
  obtain ⟨hlf, _⟩ := hlf
  obtain ⟨hrt, _⟩ := hrt
  have hpo := wf_i64 hpo
  have hn' : 0 ≤ n ∧ n ≤ 65535 := by
    simp only [Lit.wf, IntKind.min, IntKind.max, IntKind.signed, IntKind.bits, Bool.and_eq_true, decide_eq_true_eq] at hn
    simpa using hn
  clear hn
  have hl' : rules.length ≤ 10000000000000 := by omega
  have hr' : ∀ x ∈ rules, x.length ≤ 10000000000000 := fun x hx => by have := (hr x hx).1; omega
  have hlf' : lf.length ≤ 10000000000000 := by omega
  have hrt' : rt.length ≤ 10000000000000 := by omega
  clear hr hlf hrt hl
  have e0 : wrap64 (wrap64 (wrap64 ((rules.length : Int) + (([] : List Int).length : Int)) + (lf.length : Int)) + (rt.length : Int)) = (rules.length : Int) + lf.length + rt.length := by
    have e1 : wrap64 ((rules.length : Int) + (([] : List Int).length : Int)) = (rules.length : Int) := by
      rw [wrap_id (by simp) (by simp; omega)]; simp
    have e2 : wrap64 ((rules.length : Int) + (lf.length : Int)) = (rules.length : Int) + (lf.length : Int) := wrap_id (by omega) (by omega)
    rw [e1, e2, wrap_id (by omega) (by omega)]
  obtain ⟨wd, hw, hwf⟩ := wide_tot rules St Sy hl' hr' rules.length 0 ((rules.length : Int) + lf.length + rt.length) (by omega) (by omega) (by omega)
  unfold standstilllaw04_LeapMirror.f
  have hwide : Ev (fun k => standstilllaw04_wide.f k St Sy rules 0 0 0 [] st po sy lf rt) wd := by
    unfold standstilllaw04_wide.f
    rw [e0]
    exact hw
  rw [Ev_bind hwide]
  cases wd with
  | true =>
    simp only [if_true]
    exact awake_ev
  | false =>
    simp only [Bool.false_eq_true, if_false]
    have hsum := hwf rfl
    have hv := rv_f St Sy rules (by omega) (fun x hx => by have := hr' x hx; omega)
    rw [Ev_bind hv]
    cases hM : okM St Sy rules with
    | false =>
      simp only [Bool.false_eq_true, if_false]
      exact awake_ev
    | true =>
      simp only [if_true]
      simp only [if_pos hn']
      rw [Ev_bind (tm_f hM)]
      have hMm := okM_mir hM
      obtain ⟨m1, m2, m3, m4, m5, m6⟩ := okM_len hMm
      have tv1 := tv_f St Sy rules (by omega) (fun x hx => by have := hr' x hx; omega)
      have tv2 := tv_f St Sy (mirM rules) (by omega) (fun x hx => by have := (m6 x hx).1; omega)
      rw [hM] at tv1
      rw [hMm] at tv2
      obtain ⟨b, f1, f2, f3⟩ := fits_tot St Sy st po sy lf rt hlf' hrt' hpo
      have F1 : Ev (fun k => leap_Fits.f k St Sy rules st po sy lf rt) b := by
        unfold leap_Fits.f
        rw [Ev_bind tv1]
        simp only [if_true]
        rw [Ev_bind f1]
        exact Ev.now _
      have F2 : Ev (fun k => leap_Fits.f k St Sy (mirM rules) st (wrap64 (-po)) sy rt lf) b := by
        unfold leap_Fits.f
        rw [Ev_bind tv2]
        simp only [if_true]
        rw [Ev_bind f2]
        exact Ev.now _
      have hmod : 0 ≤ n % 301 ∧ n % 301 ≤ 300 := by omega
      have key : ∃ o : Res4, Ev (fun k => leap_Leaps.g k St Sy rules st po sy lf rt (n % 301)) o ∧ Ev (fun k => leap_Leaps.g k St Sy (mirM rules) st (wrap64 (-po)) sy rt lf (n % 301)) (mirR o) ∧ smallR o := by
        unfold leap_Leaps.g
        generalize n % 301 = q at hmod
        cases b with
        | false =>
          refine ⟨(0, 0, 0, [], [], 0, 0, false, 1), ?_, ?_, ⟨by simp, by simp, by simp, by simp⟩⟩
          · rw [Ev_bind F1]
            simp only [Bool.false_eq_true, if_false]
            exact Ev.now _
          · rw [Ev_bind F2]
            simp only [Bool.false_eq_true, if_false]
            exact Ev.now _
        | true =>
          have ht := f3 rfl
          have ht' := ht
          obtain ⟨t1, t2, t3, t4, t5, t6, ⟨t7, t8⟩, ⟨t9, t10⟩⟩ := ht'
          have D1 : ¬ (q < 0 ∨ 1000000 < q) := by omega
          have D2 : lf.length < 8000000000000 ∧ rt.length < 8000000000000 := ⟨by omega, by omega⟩
          have D3 : rt.length < 8000000000000 ∧ lf.length < 8000000000000 := ⟨by omega, by omega⟩
          obtain ⟨o, g1, g2, g3⟩ := go_mir hM q.toNat 0 0 st po sy lf rt ht
          refine ⟨o, ?_, ?_, g3⟩
          · rw [Ev_bind F1]
            simp only [if_true, if_neg D1, if_pos D2]
            exact g1
          · rw [Ev_bind F2]
            simp only [if_true, if_neg D1, if_pos D3]
            rw [wrap_id (x := -po) (by omega) (by omega)]
            exact g2
      obtain ⟨o, k1, k2, k3⟩ := key
      rw [Ev_bind k1]
      simp only
      rw [Ev_bind k2]
      obtain ⟨o1, o2, o3, o4, o5, o6, o7, o8, o9⟩ := o
      obtain ⟨s1, s2, s3, s4⟩ := k3
      simp only at s1 s2 s3 s4
      simp only [standstilllaw04_LeapMirror.tail, mirR, and_self, if_true]
      have ew : wrap64 (-o2) = -o2 := wrap_id (by omega) (by omega)
      rw [Ev_ite]
      split
      · rw [ew, Ev_bind (same_ev _ _ _ _ _ (by omega) (by omega))]
        simp only [if_true]
        exact awake_ev
      · exact awake_ev

end Go.Proofs.Ytdkcociababjdaa.Pure
