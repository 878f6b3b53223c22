/- The plain law of BlockMirror: crossings of the mirrored machine in the mirrored block are mirrored. No condition beyond what every argument has (numbers of their kind, lists within memory). -/
import Derived.Test.YtcdejoaekkcknaaAid
import Derived.Test.YtcdejoaekkcknaaPBlockMirrorx8
namespace Go.Proofs.Ytcdejoaekkcknaa.Pure
open Go.RowKit Go.Proofs.Ytcdejoaekkcknaa.PBlockMirror Go.Proofs.YtcdejoaekkcknaaW.PrintWords Go.Proofs.YtcdejoaekkcknaaW.PrintLast Go.Proofs.YtcdejoaekkcknaaW.PrintMore Go.Proofs.YtcdejoaekkcknaaAid
set_option linter.unusedVariables false
set_option linter.unusedSimpArgs false

theorem wrapn (i : Nat) (h : i ≤ 1000000000000000000) : wrap64 ((i : Int) + 1) = ((i + 1 : Nat) : Int) := by
  rw [wrap_id (by omega) (by omega)]; omega
theorem rdT (l : List S57) (i : Nat) (h : i < l.length) : rd_T57 l (i : Int) = l[i] := by
  simp [rd_T57, List.getD, h]
theorem rdL (l : List (List S57)) (i : Nat) (h : i < l.length) : rd_L2 l (i : Int) = l[i] := by
  simp [rd_L2, List.getD, h]
def okR (St Sy : Int) (r : S57) : Prop := 0 ≤ r.f0 ∧ r.f0 < Sy ∧ (r.f1 = -1 ∨ r.f1 = 1) ∧ -1 ≤ r.f2 ∧ r.f2 < St
instance decOkR (St Sy : Int) (r : S57) : Decidable (okR St Sy r) := by unfold okR; infer_instance
def okRb (St Sy : Int) (r : S57) : Bool := decide (okR St Sy r)
def okRow (St Sy : Int) (l : List S57) : Bool := decide ((l.length : Int) = Sy) && l.all (okRb St Sy)
def okM (St Sy : Int) (l : List (List S57)) : Bool := decide (1 ≤ St ∧ St ≤ 6 ∧ 2 ≤ Sy ∧ Sy ≤ 4 ∧ (l.length : Int) = St) && l.all (okRow St Sy)

theorem tv_row (St Sy : Int) (rules : List (List S57)) (row : List S57) (j : Nat) (B : Bool) (hr : row.length ≤ 100000000000000) (hB : Ev (fun k => tape_Valid.l0 k rules (rules.length : Int) (wrap64 ((j : Int) + 1)) St Sy rules) B) : ∀ (d i : Nat), i + d = row.length →
    Ev (fun k => tape_Valid.l1 k rules (rules.length : Int) (j : Int) row (row.length : Int) (i : Int) St Sy rules) ((row.drop i).all (okRb St Sy) && B) := by
  intro d
  induction d with
  | zero =>
    intro i hi
    rw [Ev_succ]
    simp only [tape_Valid.l1, Ev_ite, Ev_some, Ev_none]
    rw [if_neg (by omega), List.drop_eq_nil_of_le (by omega)]
    simpa using hB
  | succ d ih =>
    intro i hi
    have hlt : i < row.length := by omega
    have ih := ih (i + 1) (by omega)
    rw [drop_cons row i hlt, List.all_cons, Ev_succ]
    simp only [tape_Valid.l1, Ev_ite, Ev_some, Ev_none]
    rw [if_pos (by omega), if_pos (by omega), if_pos (by omega), rdT row i hlt, wrapn i (by omega)]
    generalize row[i] = x
    obtain ⟨f0, f1, f2⟩ := x
    simp only
    by_cases hok : okR St Sy ⟨f0, f1, f2⟩
    · rw [okRb, decide_eq_true hok, Bool.true_and]
      obtain ⟨h0, h1, h2, h3, h4⟩ := hok
      simp only at h0 h1 h2 h3 h4
      rw [if_neg (by omega), if_neg (by omega)]
      rcases h2 with h2 | h2
      · rw [if_pos h2, if_neg (by omega), if_neg (by omega)]
        exact ih
      · rw [if_neg (by omega), if_pos h2, if_neg (by omega), if_neg (by omega)]
        exact ih
    · rw [okRb, decide_eq_false hok, Bool.false_and, Bool.false_and]
      simp only [okR] at hok
      by_cases c0 : f0 < 0
      · rw [if_pos c0]
      rw [if_neg c0]
      by_cases c1 : f0 ≥ Sy
      · rw [if_pos c1]
      rw [if_neg c1]
      by_cases c2 : f1 = -1
      · rw [if_pos c2]
        by_cases c3 : f2 < -1
        · rw [if_pos c3]
        rw [if_neg c3]
        by_cases c4 : f2 ≥ St
        · rw [if_pos c4]
        · exact absurd ⟨by omega, by omega, .inl c2, by omega, by omega⟩ hok
      rw [if_neg c2]
      by_cases c5 : f1 = 1
      · rw [if_pos c5]
        by_cases c3 : f2 < -1
        · rw [if_pos c3]
        rw [if_neg c3]
        by_cases c4 : f2 ≥ St
        · rw [if_pos c4]
        · exact absurd ⟨by omega, by omega, .inr c5, by omega, by omega⟩ hok
      · rw [if_neg c5]
theorem tv_rows (St Sy : Int) (rules : List (List S57)) (hl : rules.length ≤ 100000000000000) (hr : ∀ r ∈ rules, r.length ≤ 100000000000000) : ∀ (d j : Nat), j + d = rules.length →
    Ev (fun k => tape_Valid.l0 k rules (rules.length : Int) (j : Int) St Sy rules) ((rules.drop j).all (okRow St Sy)) := by
  intro d
  induction d with
  | zero =>
    intro j hj
    rw [Ev_succ]
    simp only [tape_Valid.l0, Ev_ite, Ev_some, Ev_none]
    rw [if_neg (by omega), List.drop_eq_nil_of_le (by omega)]
    rfl
  | succ d ih =>
    intro j hj
    have hlt : j < rules.length := by omega
    have ih := ih (j + 1) (by omega)
    rw [drop_cons rules j hlt, List.all_cons, Ev_succ]
    simp only [tape_Valid.l0, Ev_ite, Ev_some, Ev_none]
    rw [if_pos (by omega), if_pos (by omega), if_pos (by omega), rdL rules j hlt]
    by_cases c : ((rules[j].length : Nat) : Int) = Sy
    · rw [if_pos c, okRow, decide_eq_true c, Bool.true_and]
      have := tv_row St Sy rules rules[j] j _ (hr _ (List.getElem_mem hlt)) (by rw [wrapn j (by omega)]; exact ih) rules[j].length 0 (by omega)
      simpa using this
    · rw [if_neg c, okRow, decide_eq_false c]
      rfl
theorem tv_f (St Sy : Int) (rules : List (List S57)) (hl : rules.length ≤ 100000000000000) (hr : ∀ r ∈ rules, r.length ≤ 100000000000000) : Ev (fun k => tape_Valid.f k St Sy rules) (okM St Sy rules) := by
  have hj : ∀ b, Ev (fun k => tape_Valid.j0 k b St Sy rules) (!b && rules.all (okRow St Sy)) := by
    intro b
    rw [Ev_succ]
    simp only [tape_Valid.j0, Ev_ite, Ev_some]
    cases b with
    | true => simp
    | false =>
      have := tv_rows St Sy rules hl hr rules.length 0 (by omega)
      simpa using this
  unfold tape_Valid.f okM
  simp only [Ev_ite]
  by_cases c : 1 ≤ St ∧ St ≤ 6 ∧ 2 ≤ Sy ∧ Sy ≤ 4
  · rw [if_neg (by omega), if_neg (by omega), if_neg (by omega), if_neg (by omega)]
    have := hj ((rules.length : Int) != St)
    by_cases e : (rules.length : Int) = St
    · rw [decide_eq_true ⟨c.1, c.2.1, c.2.2.1, c.2.2.2, e⟩]
      simpa [e] using this
    · rw [decide_eq_false (fun h => e h.2.2.2.2), Bool.false_and]
      have hb : ((rules.length : Int) != St) = true := by simp [e]
      rw [hb] at this ⊢
      simpa using this
  · have h := hj true
    rw [decide_eq_false (fun h => c ⟨h.1, h.2.1, h.2.2.1, h.2.2.2.1⟩), Bool.false_and]
    simp only [Bool.not_true, Bool.false_and] at h
    by_cases c0 : St < 1
    · rw [if_pos c0]; exact h
    rw [if_neg c0]
    by_cases c1 : St > 6
    · rw [if_pos c1]; exact h
    rw [if_neg c1]
    by_cases c2 : Sy < 2
    · rw [if_pos c2]; exact h
    rw [if_neg c2]
    by_cases c3 : Sy > 4
    · rw [if_pos c3]; exact h
    · exact absurd ⟨by omega, by omega, by omega, by omega⟩ c

theorem rv_row (St Sy : Int) (rules : List (List S57)) (j : Nat) (hj : j < rules.length) (B : Bool) (hS : ((rules[j].length : Nat) : Int) = Sy) (hr : rules[j].length ≤ 100000000000000) (hB : Ev (fun k => standstillref01_Valid.l0 k (wrap64 ((j : Int) + 1)) St Sy rules) B) : ∀ (d i : Nat), i + d = rules[j].length →
    Ev (fun k => standstillref01_Valid.l1 k (j : Int) (i : Int) St Sy rules) ((rules[j].drop i).all (okRb St Sy) && B) := by
  intro d
  induction d with
  | zero =>
    intro i hi
    rw [Ev_succ]
    simp only [standstillref01_Valid.l1, Ev_ite, Ev_some, Ev_none]
    rw [if_neg (by omega), List.drop_eq_nil_of_le (by omega)]
    simpa using hB
  | succ d ih =>
    intro i hi
    have hlt : i < rules[j].length := by omega
    have ih := ih (i + 1) (by omega)
    rw [drop_cons rules[j] i hlt, List.all_cons, Ev_succ]
    simp only [standstillref01_Valid.l1, Ev_ite, Ev_some, Ev_none]
    rw [if_pos (by omega), if_pos (by omega), if_pos (by omega), if_pos (by omega), rdL rules j hj, if_pos (by omega), rdT rules[j] i hlt, wrapn i (by omega)]
    generalize rules[j][i] = x
    obtain ⟨f0, f1, f2⟩ := x
    simp only
    by_cases hok : okR St Sy ⟨f0, f1, f2⟩
    · rw [okRb, decide_eq_true hok, Bool.true_and]
      obtain ⟨h0, h1, h2, h3, h4⟩ := hok
      simp only at h0 h1 h2 h3 h4
      rw [if_neg (by omega), if_neg (by omega)]
      rcases h2 with h2 | h2
      · rw [if_pos h2, if_neg (by omega), if_neg (by omega)]
        exact ih
      · rw [if_neg (by omega), if_pos h2, if_neg (by omega), if_neg (by omega)]
        exact ih
    · rw [okRb, decide_eq_false hok, Bool.false_and, Bool.false_and]
      simp only [okR] at hok
      by_cases c0 : f0 < 0
      · rw [if_pos c0]
      rw [if_neg c0]
      by_cases c1 : f0 ≥ Sy
      · rw [if_pos c1]
      rw [if_neg c1]
      by_cases c2 : f1 = -1
      · rw [if_pos c2]
        by_cases c3 : f2 < -1
        · rw [if_pos c3]
        rw [if_neg c3]
        by_cases c4 : f2 ≥ St
        · rw [if_pos c4]
        · exact absurd ⟨by omega, by omega, .inl c2, by omega, by omega⟩ hok
      rw [if_neg c2]
      by_cases c5 : f1 = 1
      · rw [if_pos c5]
        by_cases c3 : f2 < -1
        · rw [if_pos c3]
        rw [if_neg c3]
        by_cases c4 : f2 ≥ St
        · rw [if_pos c4]
        · exact absurd ⟨by omega, by omega, .inr c5, by omega, by omega⟩ hok
      · rw [if_neg c5]
theorem rv_rows (St Sy : Int) (rules : List (List S57)) (hSt : (rules.length : Int) = St) (hl : rules.length ≤ 100000000000000) (hr : ∀ r ∈ rules, r.length ≤ 100000000000000) : ∀ (d j : Nat), j + d = rules.length →
    Ev (fun k => standstillref01_Valid.l0 k (j : Int) St Sy rules) ((rules.drop j).all (okRow St Sy)) := by
  intro d
  induction d with
  | zero =>
    intro j hj
    rw [Ev_succ]
    simp only [standstillref01_Valid.l0, Ev_ite, Ev_some, Ev_none]
    rw [if_neg (by omega), List.drop_eq_nil_of_le (by omega)]
    rfl
  | succ d ih =>
    intro j hj
    have hlt : j < rules.length := by omega
    have ih := ih (j + 1) (by omega)
    rw [drop_cons rules j hlt, List.all_cons, Ev_succ]
    simp only [standstillref01_Valid.l0, Ev_ite, Ev_some, Ev_none]
    rw [if_pos (by omega), if_pos (by omega), if_pos (by omega), rdL rules j hlt]
    by_cases c : ((rules[j].length : Nat) : Int) = Sy
    · rw [if_pos c, okRow, decide_eq_true c, Bool.true_and]
      have := rv_row St Sy rules j hlt _ c (hr _ (List.getElem_mem hlt)) (by rw [wrapn j (by omega)]; exact ih) rules[j].length 0 (by omega)
      simpa using this
    · rw [if_neg c, okRow, decide_eq_false c]
      rfl
theorem rv_f (St Sy : Int) (rules : List (List S57)) (hl : rules.length ≤ 100000000000000) (hr : ∀ r ∈ rules, r.length ≤ 100000000000000) : Ev (fun k => standstillref01_Valid.f k St Sy rules) (okM St Sy rules) := by
  have hj0 : Ev (fun k => standstillref01_Valid.j0 k true St Sy rules) false := by
    rw [Ev_succ]
    simp [standstillref01_Valid.j0, Ev_ite, Ev_some]
  unfold standstillref01_Valid.f okM
  simp only [Ev_ite]
  by_cases c : 1 ≤ St ∧ St ≤ 6 ∧ 2 ≤ Sy ∧ Sy ≤ 4
  · rw [if_neg (by omega), if_neg (by omega), if_neg (by omega), if_neg (by omega)]
    by_cases e : (rules.length : Int) = St
    · rw [decide_eq_true ⟨c.1, c.2.1, c.2.2.1, c.2.2.2, e⟩, show ((rules.length : Int) != St) = false by simp [e], Ev_succ]
      simp only [standstillref01_Valid.j0, Ev_ite, Ev_some]
      rw [if_neg (by simp)]
      have := rv_rows St Sy rules e hl hr rules.length 0 (by omega)
      simpa using this
    · rw [decide_eq_false (fun h => e h.2.2.2.2), show ((rules.length : Int) != St) = true by simp [e]]
      exact hj0
  · rw [decide_eq_false (fun h => c ⟨h.1, h.2.1, h.2.2.1, h.2.2.2.1⟩), Bool.false_and]
    by_cases c0 : St < 1
    · rw [if_pos c0]; exact hj0
    rw [if_neg c0]
    by_cases c1 : St > 6
    · rw [if_pos c1]; exact hj0
    rw [if_neg c1]
    by_cases c2 : Sy < 2
    · rw [if_pos c2]; exact hj0
    rw [if_neg c2]
    by_cases c3 : Sy > 4
    · rw [if_pos c3]; exact hj0
    · exact absurd ⟨by omega, by omega, by omega, by omega⟩ c

/-- The mirrored machine. -/
theorem okM_len {St Sy : Int} {rules : List (List S57)} (h : okM St Sy rules = true) : 1 ≤ St ∧ St ≤ 6 ∧ 2 ≤ Sy ∧ Sy ≤ 4 ∧ (rules.length : Int) = St ∧ ∀ r ∈ rules, (r.length : Int) = Sy ∧ ∀ x ∈ r, okR St Sy x := by
  unfold okM at h
  simp only [Bool.and_eq_true, decide_eq_true_eq, List.all_eq_true] at h
  refine ⟨h.1.1, h.1.2.1, h.1.2.2.1, h.1.2.2.2.1, h.1.2.2.2.2, fun r hr => ?_⟩
  have := h.2 r hr
  simp only [okRow, okRb, Bool.and_eq_true, decide_eq_true_eq, List.all_eq_true] at this
  exact this

def mir (r : S57) : S57 := ⟨r.f0, wrap64 (-r.f1), r.f2⟩
def mirM (l : List (List S57)) : List (List S57) := l.map (·.map mir)
theorem tm_row (rules acc : List (List S57)) (row : List S57) (j : Nat) (x y : Int) (R : Int × Int × List (List S57) × Int) (hr : row.length ≤ 100000000000000) (ha : acc.length < 5864062014805)
    (hB : Ev (fun k => tape_Mirror.l0 k rules (rules.length : Int) (wrap64 ((j : Int) + 1)) x y (acc ++ [row.map mir])) R) : ∀ (d i : Nat), i + d = row.length →
    Ev (fun k => tape_Mirror.l1 k ((row.take i).map mir ++ row.drop i) rules (rules.length : Int) (j : Int) (row.length : Int) (i : Int) x y acc) R := by
  intro d
  induction d with
  | zero =>
    intro i hi
    rw [Ev_succ]
    simp only [tape_Mirror.l1, Ev_ite, Ev_some, Ev_none]
    rw [if_neg (by omega), if_pos ha, List.drop_eq_nil_of_le (by omega), List.take_of_length_le (by omega), List.append_nil]
    exact hB
  | succ d ih =>
    intro i hi
    have hlt : i < row.length := by omega
    have ih := ih (i + 1) (by omega)
    have hA : ((row.take i).map mir).length = i := by simp; omega
    rw [Ev_succ]
    simp only [tape_Mirror.l1, Ev_ite, Ev_some, Ev_none]
    have hlen : ((row.take i).map mir ++ row.drop i).length = row.length := by simp; omega
    rw [if_pos (by omega), if_pos (by omega), if_pos (by rw [hlen]; omega), wrapn i (by omega), rdT _ i (by rw [hlen]; exact hlt)]
    have hget : ((row.take i).map mir ++ row.drop i)[i]'(by rw [hlen]; exact hlt) = row[i] := by
      rw [List.getElem_append_right (by omega), List.getElem_drop]
      congr 1
      omega
    rw [hget, Int.toNat_natCast, List.set_append_right _ _ (by omega), hA, Nat.sub_self, drop_cons row i hlt, List.set_cons_zero]
    rw [take_snoc row i hlt, List.map_append, List.append_assoc] at ih
    exact ih
theorem tm_rows (rules : List (List S57)) (x y : Int) (hl : rules.length ≤ 1000000) (hr : ∀ r ∈ rules, r.length ≤ 1000000) : ∀ (d j : Nat), j + d = rules.length →
    Ev (fun k => tape_Mirror.l0 k rules (rules.length : Int) (j : Int) x y (mirM (rules.take j))) (x, y, mirM rules, 0) := by
  intro d
  induction d with
  | zero =>
    intro j hj
    rw [Ev_succ]
    simp only [tape_Mirror.l0, Ev_ite, Ev_some, Ev_none]
    rw [if_neg (by omega), List.take_of_length_le (by omega)]
  | succ d ih =>
    intro j hj
    have hlt : j < rules.length := by omega
    have ih := ih (j + 1) (by omega)
    rw [Ev_succ]
    simp only [tape_Mirror.l0, Ev_ite, Ev_some, Ev_none]
    rw [if_pos (by omega), if_pos (by omega), if_pos (by omega), rdL rules j hlt]
    have h1 := hr _ (List.getElem_mem hlt)
    rw [Ev_bind (a := rules[j]) (by unfold api_Rule.f; rw [if_pos (by omega)]; exact Ev.now _)]
    have e : mirM (rules.take (j + 1)) = mirM (rules.take j) ++ [rules[j].map mir] := by rw [take_snoc rules j hlt]; simp only [mirM, List.map_append, List.map_cons, List.map_nil]
    rw [e] at ih
    have := tm_row rules (mirM (rules.take j)) rules[j] j x y _ (by omega) (by unfold mirM; simp; omega) (by rw [wrapn j (by omega)]; exact ih) rules[j].length 0 (by omega)
    simpa using this
theorem mir_neg {St Sy : Int} {r : S57} (h : okR St Sy r) : mir r = ⟨r.f0, -r.f1, r.f2⟩ := by
  unfold mir
  rw [wrap_id (by rcases h.2.2.1 with e | e <;> omega) (by rcases h.2.2.1 with e | e <;> omega)]
theorem okM_mir {St Sy : Int} {rules : List (List S57)} (h : okM St Sy rules = true) : okM St Sy (mirM rules) = true := by
  obtain ⟨h1, h2, h3, h4, h5, h6⟩ := okM_len h
  unfold okM mirM
  simp only [Bool.and_eq_true, decide_eq_true_eq, List.all_eq_true, List.length_map]
  refine ⟨⟨h1, h2, h3, h4, h5⟩, fun r hr => ?_⟩
  obtain ⟨r0, hr0, rfl⟩ := List.mem_map.1 hr
  obtain ⟨h7, h8⟩ := h6 r0 hr0
  simp only [okRow, okRb, Bool.and_eq_true, decide_eq_true_eq, List.all_eq_true, List.length_map]
  refine ⟨h7, fun x hx => ?_⟩
  obtain ⟨x0, hx0, rfl⟩ := List.mem_map.1 hx
  have h9 := h8 x0 hx0
  rw [mir_neg h9]
  obtain ⟨g0, g1, g2, g3, g4⟩ := h9
  exact ⟨g0, g1, by simp only; omega, g3, g4⟩
theorem mirM_mirM {St Sy : Int} {rules : List (List S57)} (h : okM St Sy rules = true) : mirM (mirM rules) = rules := by
  obtain ⟨_, _, _, _, _, h6⟩ := okM_len h
  unfold mirM
  rw [List.map_map]
  conv => rhs; rw [← List.map_id rules]
  refine List.map_congr_left fun r hr => ?_
  simp only [Function.comp, List.map_map, id]
  conv => rhs; rw [← List.map_id r]
  refine List.map_congr_left fun x hx => ?_
  have h9 := (h6 r hr).2 x hx
  simp only [Function.comp, id, mir_neg h9]
  obtain ⟨f0, f1, f2⟩ := x
  have := h9.2.2.1
  simp only at this
  unfold mir
  simp only
  rw [wrap_id (by omega) (by omega), Int.neg_neg]
theorem tm_f {St Sy : Int} {rules : List (List S57)} (h : okM St Sy rules = true) : Ev (fun k => tape_Mirror.f k St Sy rules) (St, Sy, mirM rules, 0) := by
  obtain ⟨h1, h2, h3, h4, h5, h6⟩ := okM_len h
  unfold tape_Mirror.f
  rw [Ev_bind (tv_f St Sy rules (by omega) (fun r hr => by have := (h6 r hr).1; omega)), h]
  simp only [if_true]
  have := tm_rows rules St Sy (by omega) (fun r hr => by have := (h6 r hr).1; omega) rules.length 0 (by omega)
  simpa [mirM] using this

abbrev Cf := Int × Int × List Int
section
variable (rules : List (List S57)) (n : Nat)
def ruleOf (c : Cf) : S57 := rd_T57 (rd_L2 rules c.1) (rd c.2.2 c.2.1)
def stepC (c : Cf) : Cf := ((ruleOf rules c).f2, c.2.1 + (ruleOf rules c).f1, c.2.2.set c.2.1.toNat (ruleOf rules c).f0)
def runC : Nat → Cf → Cf
  | 0, c => c
  | t + 1, c => runC t (stepC rules c)
def Inside (c : Cf) : Prop := c.1 ≠ -1 ∧ 0 ≤ c.2.1 ∧ c.2.1 < (n : Int)
def exitRes (T : Nat) (c : Cf) : Int × Int × Int × Int × List Int := ((if c.1 = -1 then 2 else if c.2.1 < 0 then 0 else 1), c.1, (T : Int), c.2.1, c.2.2.take n)
/-- What a crossing from c answers. -/
def Sem (c : Cf) (r : Int × Int × Int × Int × List Int) : Prop :=
  (∃ T : Nat, T ≤ 200000 ∧ (∀ t, t < T → Inside n (runC rules t c)) ∧ ¬ Inside n (runC rules T c) ∧ r = exitRes n T (runC rules T c)) ∨ ((∀ t, Inside n (runC rules t c)) ∧ (∃ a b, a < b ∧ b ≤ 200000 ∧ runC rules a c = runC rules b c) ∧ r = (3, 0, 0, 0, []))
theorem runC_succ (t : Nat) (c : Cf) : runC rules (t + 1) c = stepC rules (runC rules t c) := by
  induction t generalizing c with
  | zero => rfl
  | succ t ih => rw [runC, ih (stepC rules c)]; rfl
theorem runC_add (a b : Nat) (c : Cf) : runC rules (a + b) c = runC rules b (runC rules a c) := by
  induction b with
  | zero => rfl
  | succ b ih => rw [← Nat.add_assoc, runC_succ, runC_succ, ih]
theorem Sem_uniq {c : Cf} {r r' : Int × Int × Int × Int × List Int} (h : Sem rules n c r) (h' : Sem rules n c r') : r = r' := by
  rcases h with ⟨T, _, h1, h2, rfl⟩ | ⟨h1, _, rfl⟩
  · rcases h' with ⟨T', _, g1, g2, rfl⟩ | ⟨g1, _, rfl⟩
    · rcases Nat.lt_trichotomy T T' with e | e | e
      · exact absurd (g1 T e) h2
      · rw [e]
      · exact absurd (h1 T' e) g2
    · exact absurd (g1 T) h2
  · rcases h' with ⟨T', _, g1, g2, rfl⟩ | ⟨g1, _, rfl⟩
    · exact absurd (h1 T') g2
    · rfl
end
def InvC (St Sy : Int) (n : Nat) (c : Cf) : Prop := -1 ≤ c.1 ∧ c.1 < St ∧ -1 ≤ c.2.1 ∧ c.2.1 ≤ (n : Int) ∧ c.2.2.length = 6 ∧ ∀ x ∈ c.2.2, 0 ≤ x ∧ x < Sy
theorem rd_mem {l : List Int} {i : Int} (h0 : 0 ≤ i) (h1 : i < (l.length : Int)) : rd l i ∈ l := by
  obtain ⟨m, rfl⟩ := Int.eq_ofNat_of_zero_le h0
  rw [rd_nat l m (by omega)]
  exact List.getElem_mem _
theorem rule_ok {St Sy : Int} {rules : List (List S57)} (h : okM St Sy rules = true) (c : Cf) (h0 : 0 ≤ c.1) (h1 : c.1 < St) (h2 : 0 ≤ rd c.2.2 c.2.1) (h3 : rd c.2.2 c.2.1 < Sy) :
    c.1 < (rules.length : Int) ∧ rd c.2.2 c.2.1 < ((rd_L2 rules c.1).length : Int) ∧ okR St Sy (ruleOf rules c) := by
  obtain ⟨a1, a2, a3, a4, a5, a6⟩ := okM_len h
  obtain ⟨st, po, v⟩ := c
  unfold ruleOf
  simp only at *
  obtain ⟨s, rfl⟩ := Int.eq_ofNat_of_zero_le h0
  obtain ⟨y, hy⟩ := Int.eq_ofNat_of_zero_le h2
  rw [hy] at h3 ⊢
  have hs : s < rules.length := by omega
  rw [rdL rules s hs]
  obtain ⟨b1, b2⟩ := a6 _ (List.getElem_mem hs)
  have hyl : y < rules[s].length := by omega
  rw [rdT _ y hyl]
  exact ⟨by omega, by omega, b2 _ (List.getElem_mem hyl)⟩
theorem inv_step {St Sy : Int} {rules : List (List S57)} {n : Nat} (h : okM St Sy rules = true) (hn : n ≤ 6) {c : Cf} (hc : InvC St Sy n c) (hi : Inside n c) : InvC St Sy n (stepC rules c) ∧ okR St Sy (ruleOf rules c) ∧ c.1 < (rules.length : Int) ∧ 0 ≤ rd c.2.2 c.2.1 ∧ rd c.2.2 c.2.1 < ((rd_L2 rules c.1).length : Int) := by
  obtain ⟨c1, c2, c3, c4, c5, c6⟩ := hc
  obtain ⟨i1, i2, i3⟩ := hi
  obtain ⟨m1, m2⟩ := c6 _ (rd_mem (l := c.2.2) i2 (by omega))
  obtain ⟨r1, r2, r3⟩ := rule_ok h c (by omega) c2 m1 m2
  obtain ⟨o1, o2, o3, o4, o5⟩ := r3
  refine ⟨⟨o4, o5, ?_, ?_, ?_, ?_⟩, ⟨o1, o2, o3, o4, o5⟩, r1, m1, r2⟩
  · show -1 ≤ c.2.1 + (ruleOf rules c).f1
    omega
  · show c.2.1 + (ruleOf rules c).f1 ≤ (n : Int)
    omega
  · show (c.2.2.set _ _).length = 6
    rw [List.length_set]
    exact c5
  · intro x hx
    rcases List.mem_or_eq_of_mem_set hx with h1 | h1
    · exact c6 x h1
    · rw [h1]; exact ⟨o1, o2⟩
theorem inv_run {St Sy : Int} {rules : List (List S57)} {n : Nat} (h : okM St Sy rules = true) (hn : n ≤ 6) {c : Cf} (hc : InvC St Sy n c) : ∀ t, (∀ u, u < t → Inside n (runC rules u c)) → InvC St Sy n (runC rules t c) := by
  intro t
  induction t with
  | zero => intro _; exact hc
  | succ t ih =>
    intro hu
    rw [runC_succ]
    exact (inv_step h hn (ih (fun u hu' => hu u (by omega))) (hu t (by omega))).1
/-! All moments, counted. -/
def words (Sy : Nat) : Nat → List (List Int)
  | 0 => [[]]
  | m + 1 => (words Sy m).flatMap fun v => (List.range Sy).map fun x => ((x : Nat) : Int) :: v
theorem words_length (Sy : Nat) : ∀ m, (words Sy m).length = Sy ^ m := by
  intro m
  induction m with
  | zero => rfl
  | succ m ih =>
    have : ∀ l : List (List Int), (l.flatMap fun v => (List.range Sy).map fun x => ((x : Nat) : Int) :: v).length = l.length * Sy := by
      intro l
      induction l with
      | nil => simp
      | cons a l ih => rw [List.flatMap_cons, List.length_append, ih, List.length_map, List.length_range, List.length_cons, Nat.succ_mul]; omega
    rw [words, this, ih, Nat.pow_succ]
theorem mem_words (Sy : Nat) : ∀ (m : Nat) (v : List Int), v.length = m → (∀ x ∈ v, 0 ≤ x ∧ x < (Sy : Int)) → v ∈ words Sy m := by
  intro m
  induction m with
  | zero => intro v hv _; rw [List.eq_nil_of_length_eq_zero hv]; simp [words]
  | succ m ih =>
    intro v hv hx
    cases v with
    | nil => simp at hv
    | cons a v =>
      obtain ⟨h0, h1⟩ := hx a (List.mem_cons_self)
      obtain ⟨x, rfl⟩ := Int.eq_ofNat_of_zero_le h0
      rw [words, List.mem_flatMap]
      refine ⟨v, ih v (by simpa using hv) (fun y hy => hx y (List.mem_cons_of_mem _ hy)), ?_⟩
      rw [List.mem_map]
      exact ⟨x, List.mem_range.2 (by omega), rfl⟩
def univ (St Sy n : Nat) : List Cf := (List.range St).flatMap fun s => (List.range n).flatMap fun p => (words Sy 6).map fun v => (((s : Nat) : Int), ((p : Nat) : Int), v)
theorem univ_length (St Sy n : Nat) : (univ St Sy n).length = St * (n * Sy ^ 6) := by
  have h : ∀ {α β : Type} (f : α → List β) (k : Nat) (l : List α), (∀ a, (f a).length = k) → (l.flatMap f).length = l.length * k := by
    intro α β f k l hf
    induction l with
    | nil => simp
    | cons a l ih => rw [List.flatMap_cons, List.length_append, ih, hf, List.length_cons, Nat.succ_mul]; omega
  unfold univ
  rw [h _ (n * Sy ^ 6) _ (fun s => by rw [h _ (Sy ^ 6) _ (fun p => by rw [List.length_map, words_length]), List.length_range]), List.length_range]
theorem mem_univ {St Sy n : Nat} {c : Cf} (hc : InvC St Sy n c) (hi : Inside n c) : c ∈ univ St Sy n := by
  obtain ⟨st, po, v⟩ := c
  obtain ⟨c1, c2, c3, c4, c5, c6⟩ := hc
  obtain ⟨i1, i2, i3⟩ := hi
  simp only at *
  obtain ⟨s, rfl⟩ := Int.eq_ofNat_of_zero_le (show 0 ≤ st by omega)
  obtain ⟨p, rfl⟩ := Int.eq_ofNat_of_zero_le i2
  unfold univ
  rw [List.mem_flatMap]
  refine ⟨s, List.mem_range.2 (by omega), ?_⟩
  rw [List.mem_flatMap]
  refine ⟨p, List.mem_range.2 (by omega), ?_⟩
  rw [List.mem_map]
  exact ⟨v, mem_words Sy 6 v c5 c6, rfl⟩
theorem cnt_lt {α : Type} (l : List α) (p q : α → Bool) (h : ∀ x, q x = true → p x = true) {a : α} (ha : a ∈ l) (hp : p a = true) (hq : q a = false) : l.countP q < l.countP p := by
  induction l with
  | nil => cases ha
  | cons b l ih =>
    have hle : l.countP q ≤ l.countP p := List.countP_mono_left (fun x _ => h x)
    rw [List.countP_cons, List.countP_cons]
    rcases List.mem_cons.1 ha with rfl | ha
    · rw [hp, hq]
      simp
      omega
    · have := ih ha
      cases hb : q b with
      | true => rw [h b hb]; simp; omega
      | false => cases hb2 : p b <;> simp <;> omega
def unseen (U seen : List Cf) : Nat := U.countP (fun x => decide (x ∉ seen))
theorem unseen_lt {U seen : List Cf} {c : Cf} (hc : c ∈ U) (hs : c ∉ seen) : unseen U (c :: seen) < unseen U seen := by
  refine cnt_lt U _ _ (fun x hx => ?_) hc (by simpa using hs) (by simp)
  rw [decide_eq_true_eq] at hx ⊢
  exact fun h => hx (List.mem_cons_of_mem _ h)
theorem okK_of {St Sy : Int} {n : Nat} {c : Cf} (hc : InvC St Sy n c) (hSt : St ≤ 6) (hSy : Sy ≤ 4) (hn : n ≤ 6) : okK c.1 c.2.1 c.2.2 = true := by
  obtain ⟨c1, c2, c3, c4, c5, c6⟩ := hc
  unfold okK
  rw [Bool.and_eq_true, decide_eq_true_eq, List.all_eq_true]
  refine ⟨⟨c1, by omega, c3, by omega⟩, fun x hx => ?_⟩
  rw [decide_eq_true_eq]
  have := c6 x hx
  omega
/-- A moment that was there before: the run never leaves. -/
theorem never {rules : List (List S57)} {n : Nat} {c : Cf} {a b : Nat} (hab : a < b) (he : runC rules a c = runC rules b c) (hi : ∀ t, t < b → Inside n (runC rules t c)) : ∀ t, Inside n (runC rules t c) := by
  intro t
  induction t using Nat.strongRecOn with
  | _ t ih =>
    by_cases h : t < b
    · exact hi t h
    · have e : t = b + (t - b) := by omega
      have e2 : runC rules t c = runC rules (a + (t - b)) c := by
        conv => lhs; rw [e]
        rw [runC_add, runC_add, he]
      rw [e2]
      exact ih _ (by omega)
theorem cross_loop {St Sy n : Nat} {rules : List (List S57)} (h : okM St Sy rules = true) (hn : n ≤ 6) (c0 : Cf) (hc0 : InvC St Sy n c0) : ∀ (m : Nat) (seen : List Cf) (i : Nat), unseen (univ St Sy n) seen ≤ m → i + m ≤ 200000 →
    (∀ x : Cf, x ∈ seen ↔ ∃ t, t < i ∧ runC rules t c0 = x) → (∀ t, t < i → Inside n (runC rules t c0)) →
    ∃ r, Ev (fun k => crossGo rules n k (runC rules i c0).1 (runC rules i c0).2.1 (runC rules i c0).2.2 seen (i : Int)) r ∧ Sem rules n c0 r := by
  obtain ⟨a1, a2, a3, a4, a5, a6⟩ := okM_len h
  intro m
  induction m with
  | zero =>
    intro seen i hm hi hs hin
    have hc := inv_run h hn hc0 i hin
    by_cases hI : Inside n (runC rules i c0)
    · by_cases hmem : runC rules i c0 ∈ seen
      · obtain ⟨t, ht, he⟩ := (hs _).1 hmem
        refine ⟨(3, 0, 0, 0, []), ?_, .inr ⟨never ht he hin, ⟨t, i, ht, by omega, he⟩, rfl⟩⟩
        generalize hcc : runC rules i c0 = c at *
        obtain ⟨st, po, v⟩ := c
        obtain ⟨i1, i2, i3⟩ := hI
        simp only at i1 i2 i3 ⊢
        rw [Ev_succ]
        simp only [crossGo, Ev_ite]
        rw [if_neg i1, if_neg (by omega), if_neg (by omega), if_pos (okK_of hc (by omega) (by omega) hn), if_pos hmem]
        exact Ev.now _
      · have := unseen_lt (mem_univ hc hI) hmem
        omega
    · refine ⟨exitRes n i (runC rules i c0), ?_, .inl ⟨i, by omega, hin, hI, rfl⟩⟩
      generalize hcc : runC rules i c0 = c at *
      obtain ⟨st, po, v⟩ := c
      obtain ⟨c1, c2, c3, c4, c5, c6⟩ := hc
      simp only [Inside] at hI c1 c2 c3 c4 ⊢
      rw [Ev_succ]
      simp only [crossGo, Ev_ite, exitRes]
      by_cases k1 : st = -1
      · rw [if_pos k1, if_pos k1]; exact Ev.now _
      · rw [if_neg k1, if_neg k1]
        by_cases k2 : po < 0
        · rw [if_pos k2, if_pos k2]; exact Ev.now _
        · rw [if_neg k2, if_neg k2, if_pos (by omega)]; exact Ev.now _
  | succ m ih =>
    intro seen i hm hi hs hin
    have hc := inv_run h hn hc0 i hin
    by_cases hI : Inside n (runC rules i c0)
    · by_cases hmem : runC rules i c0 ∈ seen
      · obtain ⟨t, ht, he⟩ := (hs _).1 hmem
        refine ⟨(3, 0, 0, 0, []), ?_, .inr ⟨never ht he hin, ⟨t, i, ht, by omega, he⟩, rfl⟩⟩
        generalize hcc : runC rules i c0 = c at *
        obtain ⟨st, po, v⟩ := c
        obtain ⟨i1, i2, i3⟩ := hI
        simp only at i1 i2 i3 ⊢
        rw [Ev_succ]
        simp only [crossGo, Ev_ite]
        rw [if_neg i1, if_neg (by omega), if_neg (by omega), if_pos (okK_of hc (by omega) (by omega) hn), if_pos hmem]
        exact Ev.now _
      · have hlt := unseen_lt (mem_univ hc hI) hmem
        obtain ⟨r, hr, hS⟩ := ih (runC rules i c0 :: seen) (i + 1) (by omega) (by omega) (fun x => by
          rw [List.mem_cons, hs]
          constructor
          · rintro (rfl | ⟨t, ht, he⟩)
            · exact ⟨i, by omega, rfl⟩
            · exact ⟨t, by omega, he⟩
          · rintro ⟨t, ht, he⟩
            by_cases hti : t = i
            · subst hti; exact .inl he.symm
            · exact .inr ⟨t, by omega, he⟩) (fun t ht => by
          by_cases hti : t = i
          · rw [hti]; exact hI
          · exact hin t (by omega))
        refine ⟨r, ?_, hS⟩
        rw [runC_succ] at hr
        obtain ⟨s1, s2, s3, s4, s5⟩ := inv_step h hn hc hI
        have hc' := hc
        have hK := okK_of hc (by omega) (by omega) hn
        generalize hcc : runC rules i c0 = c at *
        obtain ⟨st, po, v⟩ := c
        obtain ⟨i1, i2, i3⟩ := hI
        obtain ⟨o1, o2, o3, o4, o5⟩ := s2
        obtain ⟨c1, c2, c3, c4, c5, c6⟩ := hc'
        simp only [ruleOf, stepC] at i1 i2 i3 s3 s4 s5 o1 o2 o3 o4 o5 c1 c2 hr ⊢
        rw [Ev_succ]
        simp only [crossGo, Ev_ite, Ev_none]
        rw [if_neg i1, if_neg (by omega), if_neg (by omega), if_pos hK, if_neg hmem, if_pos ⟨by omega, s3, by omega⟩, if_pos ⟨s4, s5⟩, if_pos ⟨o1, by omega, by omega, by omega⟩, wrapn i (by omega)]
        exact hr
    · refine ⟨exitRes n i (runC rules i c0), ?_, .inl ⟨i, by omega, hin, hI, rfl⟩⟩
      generalize hcc : runC rules i c0 = c at *
      obtain ⟨st, po, v⟩ := c
      obtain ⟨c1, c2, c3, c4, c5, c6⟩ := hc
      simp only [Inside] at hI c1 c2 c3 c4 ⊢
      rw [Ev_succ]
      simp only [crossGo, Ev_ite, exitRes]
      by_cases k1 : st = -1
      · rw [if_pos k1, if_pos k1]; exact Ev.now _
      · rw [if_neg k1, if_neg k1]
        by_cases k2 : po < 0
        · rw [if_pos k2, if_pos k2]; exact Ev.now _
        · rw [if_neg k2, if_neg k2, if_pos (by omega)]; exact Ev.now _
def pad (w : List Int) : List Int := w ++ List.replicate (6 - w.length) 0
theorem pad_inv {St Sy : Int} {st po : Int} {w : List Int} (h0 : 0 ≤ st) (h1 : st < St) (h2 : 0 ≤ po) (h3 : po < (w.length : Int)) (h4 : w.length ≤ 6) (h5 : ∀ x ∈ w, 0 ≤ x ∧ x < Sy) (hS : 2 ≤ Sy) : InvC St Sy w.length (st, po, pad w) := by
  refine ⟨by simp only; omega, h1, by simp only; omega, by simp only; omega, by simp [pad]; omega, fun x hx => ?_⟩
  rcases List.mem_append.1 hx with hx | hx
  · exact h5 x hx
  · rw [List.mem_replicate] at hx
    omega
theorem cross_f {St Sy : Int} {rules : List (List S57)} (h : okM St Sy rules = true) {st po : Int} {w : List Int} (h0 : 0 ≤ st) (h1 : st < St) (h2 : 0 ≤ po) (h3 : po < (w.length : Int)) (h4 : w.length ≤ 6) (h5 : ∀ x ∈ w, 0 ≤ x ∧ x < Sy) :
    ∃ r, Ev (fun k => block_cross.f k St Sy rules st po w) r ∧ Sem rules w.length (st, po, pad w) r := by
  obtain ⟨a1, a2, a3, a4, a5, a6⟩ := okM_len h
  obtain ⟨S, rfl⟩ := Int.eq_ofNat_of_zero_le (show 0 ≤ St by omega)
  obtain ⟨Y, rfl⟩ := Int.eq_ofNat_of_zero_le (show 0 ≤ Sy by omega)
  have hU : (univ S Y w.length).length ≤ 147456 := by
    rw [univ_length]
    have hY : Y ^ 6 ≤ 4 ^ 6 := Nat.pow_le_pow_left (by omega) 6
    calc S * (w.length * Y ^ 6) ≤ 6 * (6 * 4 ^ 6) := Nat.mul_le_mul (by omega) (Nat.mul_le_mul h4 hY)
      _ = 147456 := by decide
  have hu : unseen (univ S Y w.length) [] ≤ 147456 := Nat.le_trans List.countP_le_length hU
  obtain ⟨r, hr, hS⟩ := cross_loop h h4 (st, po, pad w) (pad_inv h0 h1 h2 h3 h4 h5 a3) 147456 [] 0 hu (by omega) (fun x => by simp) (fun t ht => by omega)
  refine ⟨r, ?_, hS⟩
  unfold block_cross.f
  simp only [if_pos h4]
  exact hr
/-- Cross: what it answers to every question about a valid machine. -/
def goodArgs (St Sy st po : Int) (w : List Int) : Prop := 0 ≤ st ∧ st < St ∧ 1 ≤ w.length ∧ w.length ≤ 6 ∧ 0 ≤ po ∧ po < (w.length : Int) ∧ ∀ x ∈ w, 0 ≤ x ∧ x < Sy
instance (St Sy st po : Int) (w : List Int) : Decidable (goodArgs St Sy st po w) := by unfold goodArgs; infer_instance
def withOk (r : Int × Int × Int × Int × List Int) : Int × Int × Int × Int × List Int × Int := (r.1, r.2.1, r.2.2.1, r.2.2.2.1, r.2.2.2.2, 0)
theorem Cross_l0 {St Sy : Int} {rules : List (List S57)} (st po : Int) (w : List Int) (hw : w.length ≤ 6) : ∀ (d i : Nat), i + d = w.length →
    ((∀ x ∈ w.drop i, 0 ≤ x ∧ x < Sy) → ∀ r, Ev (fun k => block_cross.f k St Sy rules st po w) r → Ev (fun k => block_Cross.l0 k st po w w (w.length : Int) (i : Int) St Sy rules) (withOk r)) ∧
    (¬ (∀ x ∈ w.drop i, 0 ≤ x ∧ x < Sy) → Ev (fun k => block_Cross.l0 k st po w w (w.length : Int) (i : Int) St Sy rules) (0, 0, 0, 0, [], 2)) := by
  intro d
  induction d with
  | zero =>
    intro i hi
    have e : w.drop i = [] := List.drop_eq_nil_of_le (by omega)
    refine ⟨fun _ r hr => ?_, fun h => absurd (fun x hx => by rw [e] at hx; cases hx) h⟩
    rw [Ev_succ]
    simp only [block_Cross.l0, Ev_ite, Ev_none]
    rw [if_neg (by omega), Ev_bind hr]
    exact Ev.now _
  | succ d ih =>
    intro i hi
    have hlt : i < w.length := by omega
    obtain ⟨ih1, ih2⟩ := ih (i + 1) (by omega)
    rw [drop_cons w i hlt]
    have hd : (∀ x ∈ w[i] :: w.drop (i + 1), 0 ≤ x ∧ x < Sy) ↔ (0 ≤ w[i] ∧ w[i] < Sy) ∧ ∀ x ∈ w.drop (i + 1), 0 ≤ x ∧ x < Sy := List.forall_mem_cons
    rw [hd]
    have body : ∀ R, ((0 ≤ w[i] ∧ w[i] < Sy) → Ev (fun k => block_Cross.l0 k st po w w (w.length : Int) ((i + 1 : Nat) : Int) St Sy rules) R) → (¬ (0 ≤ w[i] ∧ w[i] < Sy) → R = (0, 0, 0, 0, [], 2)) → Ev (fun k => block_Cross.l0 k st po w w (w.length : Int) (i : Int) St Sy rules) R := by
      intro R h1 h2
      rw [Ev_succ]
      simp only [block_Cross.l0, Ev_ite, Ev_none]
      rw [if_pos (by omega), if_pos (by omega), if_pos (by omega), rd_nat w i hlt, wrapn i (by omega)]
      by_cases k1 : w[i] < 0
      · rw [if_pos k1, h2 (by omega)]; exact Ev.now _
      rw [if_neg k1]
      by_cases k2 : w[i] ≥ Sy
      · rw [if_pos k2, h2 (by omega)]; exact Ev.now _
      rw [if_neg k2]
      exact h1 ⟨by omega, by omega⟩
    refine ⟨fun h r hr => body _ (fun _ => ih1 h.2 r hr) (fun h3 => absurd h.1 h3), fun h => body _ (fun h3 => ih2 (fun h4 => h ⟨h3, h4⟩)) (fun _ => rfl)⟩
theorem Cross_ev {St Sy : Int} {rules : List (List S57)} (h : okM St Sy rules = true) (st po : Int) (w : List Int) (hw : w.length ≤ 100000) :
    (goodArgs St Sy st po w → ∃ r, Ev (fun k => block_Cross.f k St Sy rules st po w) (withOk r) ∧ Sem rules w.length (st, po, pad w) r) ∧
    (¬ goodArgs St Sy st po w → Ev (fun k => block_Cross.f k St Sy rules st po w) (0, 0, 0, 0, [], 2)) := by
  obtain ⟨a1, a2, a3, a4, a5, a6⟩ := okM_len h
  have htv := tv_f St Sy rules (by omega) (fun r hr => by have := (a6 r hr).1; omega)
  rw [h] at htv
  have bad : Ev (fun k => block_Cross.j0 k st po w true St Sy rules) (0, 0, 0, 0, [], 2) := by
    rw [Ev_succ]
    simp only [block_Cross.j0, if_true]
    exact Ev.now _
  have good : Ev (fun k => block_Cross.l0 k st po w w (w.length : Int) 0 St Sy rules) = Ev (fun k => block_Cross.l0 k st po w w (w.length : Int) ((0 : Nat) : Int) St Sy rules) := rfl
  have hj : ∀ R, Ev (fun k => block_Cross.l0 k st po w w (w.length : Int) 0 St Sy rules) R → Ev (fun k => block_Cross.j0 k st po w false St Sy rules) R := by
    intro R hR
    rw [Ev_succ]
    simp only [block_Cross.j0, Ev_ite, Bool.false_eq_true, if_false]
    exact hR
  constructor
  · rintro ⟨g1, g2, g3, g4, g5, g6, g7⟩
    obtain ⟨r, hr, hS⟩ := cross_f h g1 g2 g5 g6 g4 g7
    refine ⟨r, ?_, hS⟩
    unfold block_Cross.f
    rw [Ev_bind htv]
    simp only [if_true, Ev_ite]
    rw [if_neg (by omega), if_neg (by omega), if_neg (by omega), if_neg (by omega), if_neg (by omega), decide_eq_false (by omega)]
    exact hj _ ((Cross_l0 st po w g4 w.length 0 (by omega)).1 g7 r hr)
  · intro hg
    unfold block_Cross.f
    rw [Ev_bind htv]
    simp only [if_true, Ev_ite]
    split
    · exact bad
    split
    · exact bad
    split
    · exact bad
    split
    · exact bad
    split
    · exact bad
    · by_cases k : po ≥ (w.length : Int)
      · rw [decide_eq_true k]; exact bad
      · rw [decide_eq_false k]
        refine hj _ ((Cross_l0 st po w (by omega) w.length 0 (by omega)).2 (fun hx => hg ⟨by omega, by omega, by omega, by omega, by omega, by omega, hx⟩))

theorem same_loop (l : List Int) (hl : l.length ≤ 100000) : ∀ (d i : Nat), i + d = l.length → Ev (fun k => standstillref01_SameInts.l0 k l l (i : Int)) true := by
  intro d
  induction d with
  | zero =>
    intro i hi
    rw [Ev_succ]
    simp only [standstillref01_SameInts.l0, Ev_ite, Ev_none]
    rw [if_neg (by omega)]
    exact Ev.now _
  | succ d ih =>
    intro i hi
    have ih := ih (i + 1) (by omega)
    rw [Ev_succ]
    simp only [standstillref01_SameInts.l0, Ev_ite, Ev_none]
    rw [if_pos (by omega), if_pos (by omega), if_pos (by omega), if_pos trivial, wrapn i (by omega)]
    exact ih
theorem same_ev (l : List Int) (hl : l.length ≤ 100000) : Ev (fun k => standstillref01_SameInts.f k l l) true := by
  unfold standstillref01_SameInts.f
  simp only [if_true]
  exact same_loop l hl l.length 0 (by omega)
theorem awake_ev : Ev (fun k => standstilllaw05_awake.f k) true := Ev.of (k := 80) standstilllaw05_awake.mono (by decide +kernel)
theorem awake_b : Ev (fun k => (standstilllaw05_awake.f k).bind fun t => some t) true := by
  rw [Ev_bind awake_ev]
  exact Ev.now _
theorem wide_tot (rules : List (List S57)) (x y : Int) (hl : rules.length ≤ 10000000000000) (hr : ∀ r ∈ rules, r.length ≤ 10000000000000) : ∀ (d i : Nat) (n : Int), i + d = rules.length → 0 ≤ n → n ≤ 100000000000000000 →
    ∃ b, Ev (fun k => standstilllaw05_wide.l0 k n (i : Int) x y rules) b := by
  intro d
  induction d with
  | zero =>
    intro i n hi h0 h1
    refine ⟨decide (n > 1000), ?_⟩
    rw [Ev_succ]
    simp only [standstilllaw05_wide.l0, Ev_ite, Ev_none]
    rw [if_neg (by omega)]
    exact Ev.now _
  | succ d ih =>
    intro i n hi h0 h1
    have hlt : i < rules.length := by omega
    by_cases c : n ≤ 1000
    · have hm := hr _ (List.getElem_mem hlt)
      have e : wrap64 (n + (rules[i].length : Int)) = n + (rules[i].length : Int) := wrap_id (by omega) (by omega)
      obtain ⟨b, hb⟩ := ih (i + 1) (n + (rules[i].length : Int)) (by omega) (by omega) (by omega)
      refine ⟨b, ?_⟩
      rw [Ev_succ]
      simp only [standstilllaw05_wide.l0, Ev_ite, Ev_none]
      rw [if_pos (by omega), if_pos c, if_pos (by omega), rdL rules i hlt, e, wrapn i (by omega)]
      exact hb
    · refine ⟨decide (n > 1000), ?_⟩
      rw [Ev_succ]
      simp only [standstilllaw05_wide.l0, Ev_ite, Ev_none]
      rw [if_pos (by omega), if_neg c]
      exact Ev.now _
theorem exit_word {St Sy : Int} {rules : List (List S57)} (h : okM St Sy rules = true) {n : Nat} (hn : n ≤ 6) {c : Cf} (hc : InvC St Sy n c) {r : Int × Int × Int × Int × List Int} (hS : Sem rules n c r) : r.2.2.2.2.length ≤ 6 ∧ (r.1 = 0 ∨ r.1 = 1 ∨ r.1 = 2 ∨ r.1 = 3) ∧ -1 ≤ r.2.2.2.1 ∧ r.2.2.2.1 ≤ 6 := by
  rcases hS with ⟨T, h0, h1, h2, rfl⟩ | ⟨h1, _, rfl⟩
  · obtain ⟨c1, c2, c3, c4, c5, c6⟩ := inv_run h hn hc T h1
    unfold exitRes
    refine ⟨by simp only; rw [List.length_take]; omega, ?_, by simp only; omega, by simp only; omega⟩
    simp only
    split
    · simp
    · split <;> simp
  · exact ⟨by simp, by simp, by simp, by simp⟩

def mirV (n : Nat) (v : List Int) : List Int := (v.take n).reverse ++ v.drop n
def mirC (n : Nat) (c : Cf) : Cf := (c.1, (n : Int) - 1 - c.2.1, mirV n c.2.2)
theorem mirV_length {n : Nat} {v : List Int} : (mirV n v).length = v.length := by
  unfold mirV
  rw [List.length_append, List.length_reverse, List.length_take, List.length_drop]
  omega
theorem mirV_get {n : Nat} {v : List Int} (hv : n ≤ v.length) {p : Nat} (hp : p < n) : rd (mirV n v) ((n : Int) - 1 - (p : Int)) = rd v (p : Int) := by
  have e : (n : Int) - 1 - (p : Int) = ((n - 1 - p : Nat) : Int) := by omega
  rw [e, rd_nat _ _ (by rw [mirV_length]; omega), rd_nat _ _ (by omega)]
  unfold mirV
  rw [List.getElem_append_left (by rw [List.length_reverse, List.length_take]; omega), List.getElem_reverse, List.getElem_take]
  congr 1
  rw [List.length_take]
  omega
theorem mirV_set {n : Nat} {v : List Int} (hv : n ≤ v.length) {p : Nat} (hp : p < n) (x : Int) : (mirV n v).set (n - 1 - p) x = mirV n (v.set p x) := by
  unfold mirV
  rw [List.set_append, if_pos (by rw [List.length_reverse, List.length_take]; omega)]
  have e1 : (v.set p x).drop n = v.drop n := by rw [List.drop_set_of_lt hp]
  have e2 : (v.set p x).take n = (v.take n).set p x := by rw [List.take_set]
  rw [e1, e2]
  congr 1
  apply List.ext_getElem
  · simp
  · intro i h1 h2
    have hl : (v.take n).length = n := by rw [List.length_take]; omega
    have hi : i < n := by simpa [hl] using h1
    rw [List.getElem_set, List.getElem_reverse, List.getElem_reverse, List.getElem_set]
    simp only [hl, List.length_set]
    by_cases c : n - 1 - p = i
    · rw [if_pos c, if_pos (by omega)]
    · rw [if_neg c, if_neg (by omega)]
theorem mirV_take {n : Nat} {v : List Int} (hv : n ≤ v.length) : (mirV n v).take n = (v.take n).reverse := by
  unfold mirV
  rw [List.take_append_of_le_length (by rw [List.length_reverse, List.length_take]; omega), List.take_of_length_le (by rw [List.length_reverse, List.length_take]; omega)]
theorem mirV_pad (w : List Int) (hw : w.length ≤ 6) : mirV w.length (pad w) = pad w.reverse := by
  unfold mirV pad
  rw [List.take_left, List.drop_left, List.length_reverse]
theorem mirM_rule {St Sy : Int} {rules : List (List S57)} (h : okM St Sy rules = true) {n : Nat} {c : Cf} (hc : InvC St Sy n c) (hn : n ≤ 6) (hi : Inside n c) : ruleOf (mirM rules) (mirC n c) = mir (ruleOf rules c) := by
  obtain ⟨a1, a2, a3, a4, a5, a6⟩ := okM_len h
  obtain ⟨st, po, v⟩ := c
  obtain ⟨c1, c2, c3, c4, c5, c6⟩ := hc
  obtain ⟨i1, i2, i3⟩ := hi
  simp only at *
  obtain ⟨p, rfl⟩ := Int.eq_ofNat_of_zero_le i2
  obtain ⟨s, rfl⟩ := Int.eq_ofNat_of_zero_le (show 0 ≤ st by omega)
  unfold ruleOf mirC
  simp only
  rw [mirV_get (by omega) (by omega)]
  obtain ⟨m1, m2⟩ := c6 _ (rd_mem (l := v) i2 (by omega))
  obtain ⟨y, hy⟩ := Int.eq_ofNat_of_zero_le m1
  rw [hy] at m2 ⊢
  have hs : s < rules.length := by omega
  have hs' : s < (mirM rules).length := by simpa [mirM] using hs
  rw [rdL rules s hs, rdL (mirM rules) s hs']
  have hyl : y < rules[s].length := by have := (a6 _ (List.getElem_mem hs)).1; omega
  have em : (mirM rules)[s] = rules[s].map mir := by simp [mirM]
  rw [em, rdT _ y hyl, rdT _ y (by simpa using hyl)]
  simp
theorem mirC_step {St Sy : Int} {rules : List (List S57)} (h : okM St Sy rules = true) {n : Nat} {c : Cf} (hc : InvC St Sy n c) (hn : n ≤ 6) (hi : Inside n c) : stepC (mirM rules) (mirC n c) = mirC n (stepC rules c) := by
  have hr := (inv_step h hn hc hi).2.1
  have e := mirM_rule h hc hn hi
  rw [mir_neg hr] at e
  unfold stepC
  rw [e]
  obtain ⟨st, po, v⟩ := c
  obtain ⟨c1, c2, c3, c4, c5, c6⟩ := hc
  obtain ⟨i1, i2, i3⟩ := hi
  simp only at i2 i3 c5
  obtain ⟨p, rfl⟩ := Int.eq_ofNat_of_zero_le i2
  generalize ruleOf rules (st, (p : Int), v) = r
  unfold mirC
  simp only
  have e1 : ((n : Int) - 1 - (p : Int)).toNat = n - 1 - p := by omega
  rw [e1, mirV_set (by omega) (by omega), Int.toNat_natCast]
  have e2 : (n : Int) - 1 - (p : Int) + -r.f1 = (n : Int) - 1 - ((p : Int) + r.f1) := by omega
  rw [e2]
theorem mirC_inside {n : Nat} {c : Cf} : Inside n (mirC n c) ↔ Inside n c := by
  unfold Inside mirC
  simp only
  constructor
  · rintro ⟨h1, h2, h3⟩; exact ⟨h1, by omega, by omega⟩
  · rintro ⟨h1, h2, h3⟩; exact ⟨h1, by omega, by omega⟩
theorem mirC_run {St Sy : Int} {rules : List (List S57)} (h : okM St Sy rules = true) {n : Nat} (hn : n ≤ 6) {c : Cf} (hc : InvC St Sy n c) : ∀ t, (∀ u, u < t → Inside n (runC rules u c)) → runC (mirM rules) t (mirC n c) = mirC n (runC rules t c) := by
  intro t
  induction t with
  | zero => intro _; rfl
  | succ t ih =>
    intro hu
    have hu' : ∀ u, u < t → Inside n (runC rules u c) := fun u hu2 => hu u (by omega)
    rw [runC_succ, runC_succ, ih hu', mirC_step h (inv_run h hn hc t hu') hn (hu t (by omega))]
/-- The mirrored answer. -/
def mirR (n : Nat) (r : Int × Int × Int × Int × List Int) : Int × Int × Int × Int × List Int :=
  if r.1 = 3 then r else ((if r.1 = 2 then 2 else 1 - r.1), r.2.1, r.2.2.1, (n : Int) - 1 - r.2.2.2.1, r.2.2.2.2.reverse)
theorem mir_sem {St Sy : Int} {rules : List (List S57)} (h : okM St Sy rules = true) {n : Nat} (hn : n ≤ 6) {c : Cf} (hc : InvC St Sy n c) {r : Int × Int × Int × Int × List Int} (hS : Sem rules n c r) : Sem (mirM rules) n (mirC n c) (mirR n r) := by
  rcases hS with ⟨T, h0, h1, h2, rfl⟩ | ⟨h1, ⟨a, b, hab, hb, he⟩, rfl⟩
  · have hT := mirC_run h hn hc T h1
    refine .inl ⟨T, h0, fun t ht => ?_, ?_, ?_⟩
    · rw [mirC_run h hn hc t (fun u hu => h1 u (by omega)), mirC_inside]
      exact h1 t ht
    · rw [hT, mirC_inside]
      exact h2
    · rw [hT]
      have hI := inv_run h hn hc T h1
      generalize runC rules T c = d at h2 hI
      obtain ⟨st, po, v⟩ := d
      obtain ⟨c1, c2, c3, c4, c5, c6⟩ := hI
      simp only [Inside] at h2 c3 c4 c5
      unfold mirR exitRes mirC
      simp only
      rw [mirV_take (by omega)]
      have d23 : ¬ ((2 : Int) = 3) := by decide
      have d03 : ¬ ((0 : Int) = 3) := by decide
      have d02 : ¬ ((0 : Int) = 2) := by decide
      have d13 : ¬ ((1 : Int) = 3) := by decide
      have d12 : ¬ ((1 : Int) = 2) := by decide
      by_cases k1 : st = -1
      · simp only [if_pos k1, if_neg d23, if_true]
      · by_cases k2 : po < 0
        · have e1 : ¬ ((n : Int) - 1 - po < 0) := by omega
          simp only [if_neg k1, if_pos k2, if_neg e1, if_neg d03, if_neg d02]
          rfl
        · have e1 : (n : Int) - 1 - po < 0 := by omega
          simp only [if_neg k1, if_neg k2, if_pos e1, if_neg d13, if_neg d12]
          rfl
  · refine .inr ⟨fun t => ?_, ⟨a, b, hab, hb, by rw [mirC_run h hn hc a (fun u _ => h1 u), mirC_run h hn hc b (fun u _ => h1 u), he]⟩, by simp [mirR]⟩
    rw [mirC_run h hn hc t (fun u _ => h1 u), mirC_inside]
    exact h1 t
theorem turned_loop (l : List Int) (hl : l.length ≤ 100000) : ∀ (d i : Nat) (acc : List Int), i + 1 = d → d ≤ l.length → acc.length ≤ 100000 - d → Ev (fun k => standstillref01_Turned.l0 k l acc (i : Int)) (acc ++ (l.take d).reverse) := by
  intro d
  induction d with
  | zero => intro i acc hi; omega
  | succ d ih =>
    intro i acc hi hd ha
    obtain rfl : i = d := by omega
    rw [Ev_succ]
    simp only [standstillref01_Turned.l0, Ev_ite, Ev_none]
    rw [if_pos (by omega), if_pos (by omega), if_pos (by omega), if_pos (by omega), rd_nat l i (by omega), take_snoc l i (by omega), List.reverse_append, List.reverse_singleton, ← List.append_assoc]
    cases i with
    | zero =>
      have e : wrap64 (((0 : Nat) : Int) - 1) = -1 := by decide +kernel
      rw [e, Ev_succ]
      simp only [standstillref01_Turned.l0, Ev_ite]
      rw [if_neg (by omega)]
      simp only [List.take_zero, List.reverse_nil, List.append_nil]
      exact Ev.now _
    | succ j =>
      have e : wrap64 (((j + 1 : Nat) : Int) - 1) = ((j : Nat) : Int) := by rw [wrap_id (by omega) (by omega)]; omega
      rw [e]
      exact ih j _ rfl (by omega) (by rw [List.length_append, List.length_singleton]; omega)
theorem turned_ev (l : List Int) (hl : l.length ≤ 50000) : Ev (fun k => standstillref01_Turned.f k l) l.reverse := by
  unfold standstillref01_Turned.f
  cases hn : l.length with
  | zero =>
    have e : wrap64 (((0 : Nat) : Int) - 1) = -1 := by decide +kernel
    rw [e, Ev_succ]
    simp only [standstillref01_Turned.l0, Ev_ite]
    rw [if_neg (by omega), List.eq_nil_of_length_eq_zero hn]
    exact Ev.now _
  | succ m =>
    have e : wrap64 (((m + 1 : Nat) : Int) - 1) = ((m : Nat) : Int) := by rw [wrap_id (by omega) (by omega)]; omega
    rw [e]
    have := turned_loop l (by omega) (m + 1) m [] rfl (by omega) (by simp)
    rw [List.take_of_length_le (by omega)] at this
    simpa using this
theorem BlockMirror : standstilllaw05_BlockMirror.Pure := by
  intro St Sy rules st po w _ _ hrl hst hpo hw
  apply Ev.rounds
  obtain ⟨hl, hr⟩ := hrl
  have hst := wf_i64 hst
  have hpo := wf_i64 hpo
  have hl' : rules.length ≤ 10000000000000 := by omega
  have hr' : ∀ x ∈ rules, x.length ≤ 10000000000000 := fun x hx => by have := (hr x hx).1; omega
  clear hl hr
  obtain ⟨wd, hwd⟩ := wide_tot rules St Sy hl' hr' rules.length 0 (rules.length : Int) (by omega) (by omega) (by omega)
  unfold standstilllaw05_BlockMirror.f
  have hwide : Ev (fun k => standstilllaw05_wide.f k St Sy rules) wd := by
    unfold standstilllaw05_wide.f
    exact hwd
  rw [Ev_bind hwide]
  have hj : Ev (fun k => standstilllaw05_BlockMirror.j0 k st po w true St Sy rules) true := by
    rw [Ev_succ]
    simp only [standstilllaw05_BlockMirror.j0, Ev_ite]
    rw [if_pos trivial]
    exact awake_b
  cases wd with
  | true => simp only [if_true]; exact hj
  | false =>
    simp only [Bool.false_eq_true, if_false, Ev_ite]
    split
    · exact hj
    rename_i hw1
    rw [Ev_bind (rv_f St Sy rules (by omega) (fun x hx => by have := hr' x hx; omega))]
    cases hM : okM St Sy rules with
    | false => exact hj
    | true =>
      have hMm := okM_mir hM
      have hwl : w.length ≤ 1000 := by omega
      obtain ⟨a1, a2, a3, a4, a5, a6⟩ := okM_len hM
      rw [Ev_succ]
      simp only [standstilllaw05_BlockMirror.j0, Ev_ite, Bool.not_true, Bool.false_eq_true, if_false]
      rw [Ev_bind (tm_f hM)]
      obtain ⟨p1, p2⟩ := Cross_ev hM st po w (by omega)
      have hq : wrap64 ((w.length : Int) - 1) = (w.length : Int) - 1 := wrap_id (by omega) (by omega)
      obtain ⟨q1, q2⟩ := Cross_ev hMm st (wrap64 (wrap64 ((w.length : Int) - 1) - po)) w.reverse (by rw [List.length_reverse]; omega)
      rw [hq] at q1 q2
      have turn := turned_ev w (by omega)
      by_cases hg : goodArgs St Sy st po w
      · obtain ⟨r, hr1, hS⟩ := p1 hg
        obtain ⟨g1, g2, g3, g4, g5, g6, g7⟩ := hg
        have hp : wrap64 ((w.length : Int) - 1 - po) = (w.length : Int) - 1 - po := wrap_id (by omega) (by omega)
        rw [hp] at q1 q2
        have hg' : goodArgs St Sy st ((w.length : Int) - 1 - po) w.reverse := ⟨g1, g2, by rw [List.length_reverse]; exact g3, by rw [List.length_reverse]; exact g4, by omega, by rw [List.length_reverse]; omega, fun x hx => g7 x (List.mem_reverse.1 hx)⟩
        obtain ⟨r', hr2, hS'⟩ := q1 hg'
        rw [List.length_reverse, ← mirV_pad w g4] at hS'
        have hInv : InvC St Sy w.length (st, po, pad w) := pad_inv g1 g2 g5 g6 g4 g7 a3
        have hS2 : Sem (mirM rules) w.length (mirC w.length (st, po, pad w)) r' := hS'
        have e := Sem_uniq _ _ hS2 (mir_sem hM g4 hInv hS)
        subst e
        have hx := exit_word hM g4 hInv hS
        rw [Ev_bind hr1, Ev_bind turn]
        simp only
        rw [hq, hp, Ev_bind hr2]
        obtain ⟨x1, x2, x3, x4, x5⟩ := r
        obtain ⟨y1, y2, y3, y4⟩ := hx
        simp only at y1 y2 y3 y4
        simp only [withOk, Ev_ite]
        rw [if_pos trivial, Ev_succ]
        simp only [standstilllaw05_BlockMirror.j1, Ev_ite, bne_self_eq_false, Bool.false_eq_true, if_false]
        rw [if_pos trivial, Ev_succ]
        simp only [standstilllaw05_BlockMirror.j2, Ev_ite, Ev_none]
        by_cases k3 : x1 = 3
        · subst k3
          rw [if_pos (by simp), if_neg (by decide), if_pos trivial, if_pos (by simp [mirR])]
          exact awake_b
        · rw [if_neg (by simpa using k3)]
          simp only [Option.bind_some, Ev_ite]
          rw [if_neg (by omega), decide_eq_false (by omega), Ev_succ]
          simp only [standstilllaw05_BlockMirror.j3, Ev_ite, Ev_none, Bool.false_eq_true, if_false]
          rw [if_pos (by omega), if_pos (by simp; omega)]
          have hk : (mirR w.length (x1, x2, x3, x4, x5)).1 = rd [1, 0, 2] x1 := by
            unfold mirR
            rw [if_neg k3]
            rcases y2 with rfl | rfl | rfl | rfl
            · rfl
            · rfl
            · rfl
            · exact absurd rfl k3
          have h2 : (mirR w.length (x1, x2, x3, x4, x5)).2.1 = x2 := by unfold mirR; rw [if_neg k3]
          have h3 : (mirR w.length (x1, x2, x3, x4, x5)).2.2.1 = x3 := by unfold mirR; rw [if_neg k3]
          have h4 : (mirR w.length (x1, x2, x3, x4, x5)).2.2.2.1 = (w.length : Int) - 1 - x4 := by unfold mirR; rw [if_neg k3]
          have h5 : (mirR w.length (x1, x2, x3, x4, x5)).2.2.2.2 = x5.reverse := by unfold mirR; rw [if_neg k3]
          have e4 : wrap64 ((w.length : Int) - 1 - x4) = (w.length : Int) - 1 - x4 := wrap_id (by omega) (by omega)
          rw [hq, e4, if_pos hk, if_pos h2, if_pos h3, if_pos h4, h5, Ev_bind (turned_ev x5 (by omega)), Ev_bind (same_ev _ (by rw [List.length_reverse]; omega))]
          simp only [if_true]
          exact awake_b
      · have hb1 := p2 hg
        have hg' : ¬ goodArgs St Sy st (wrap64 ((w.length : Int) - 1 - po)) w.reverse := by
          rintro ⟨g1, g2, g3, g4, g5, g6, g7⟩
          rw [List.length_reverse] at g3 g4 g6
          apply hg
          have hp : wrap64 ((w.length : Int) - 1 - po) = (w.length : Int) - 1 - po := by
            unfold wrap64 at g5 g6 ⊢
            omega
          rw [hp] at g5 g6
          exact ⟨g1, g2, g3, g4, by omega, by omega, fun x hx => g7 x (List.mem_reverse.2 hx)⟩
        have hb2 := q2 hg'
        rw [Ev_bind hb1, Ev_bind turn]
        simp only
        rw [hq, Ev_bind hb2]
        simp only [Ev_ite]
        rw [if_pos trivial, Ev_succ]
        simp only [standstilllaw05_BlockMirror.j1, Ev_ite, bne_self_eq_false, Bool.false_eq_true, if_false]
        rw [if_neg (by decide), Ev_succ]
        simp only [standstilllaw05_BlockMirror.j2, Ev_ite, Ev_none]
        rw [if_pos trivial, if_pos trivial]
        exact awake_b

end Go.Proofs.Ytcdejoaekkcknaa.Pure
