/- The plain law of BlockParts: to cross a block is to cross its two parts, as often as the head goes from one to the other; for every machine, state, cell, block and cut. No condition beyond what every argument has (numbers of their kind, lists within memory). -/
import Derived.Test.YtcdejoaekkcknaaAid
import Derived.Test.YtcdejoaekkcknaaPBlockPartsx8
namespace Go.Proofs.Ytcdejoaekkcknaa.Pure
open Go.RowKit Go.Proofs.Ytcdejoaekkcknaa.PBlockParts Go.Proofs.YtcdejoaekkcknaaW.PrintWords Go.Proofs.YtcdejoaekkcknaaW.PrintLast Go.Proofs.YtcdejoaekkcknaaW.PrintMore Go.Proofs.YtcdejoaekkcknaaAid
set_option linter.unusedVariables false
set_option linter.unusedSimpArgs false

theorem wrapn (i : Nat) (h : i ≤ 1000000000000000000) : wrap64 ((i : Int) + 1) = ((i + 1 : Nat) : Int) := by
  rw [wrap_id (by omega) (by omega)]; omega
theorem rdT (l : List S57) (i : Nat) (h : i < l.length) : rd_T57 l (i : Int) = l[i] := by
  simp [rd_T57, List.getD, h]
theorem rdL (l : List (List S57)) (i : Nat) (h : i < l.length) : rd_L2 l (i : Int) = l[i] := by
  simp [rd_L2, List.getD, h]
def okR (St Sy : Int) (r : S57) : Prop := 0 ≤ r.f0 ∧ r.f0 < Sy ∧ (r.f1 = -1 ∨ r.f1 = 1) ∧ -1 ≤ r.f2 ∧ r.f2 < St
instance decOkR (St Sy : Int) (r : S57) : Decidable (okR St Sy r) := by unfold okR; infer_instance
def okRb (St Sy : Int) (r : S57) : Bool := decide (okR St Sy r)
def okRow (St Sy : Int) (l : List S57) : Bool := decide ((l.length : Int) = Sy) && l.all (okRb St Sy)
def okM (St Sy : Int) (l : List (List S57)) : Bool := decide (1 ≤ St ∧ St ≤ 6 ∧ 2 ≤ Sy ∧ Sy ≤ 4 ∧ (l.length : Int) = St) && l.all (okRow St Sy)

theorem tv_row (St Sy : Int) (rules : List (List S57)) (row : List S57) (j : Nat) (B : Bool) (hr : row.length ≤ 100000000000000) (hB : Ev (fun k => tape_Valid.l0 k rules (rules.length : Int) (wrap64 ((j : Int) + 1)) St Sy rules) B) : ∀ (d i : Nat), i + d = row.length →
    Ev (fun k => tape_Valid.l1 k rules (rules.length : Int) (j : Int) row (row.length : Int) (i : Int) St Sy rules) ((row.drop i).all (okRb St Sy) && B) := by
  intro d
  induction d with
  | zero =>
    intro i hi
    rw [Ev_succ]
    simp only [tape_Valid.l1, Ev_ite, Ev_some, Ev_none]
    rw [if_neg (by omega), List.drop_eq_nil_of_le (by omega)]
    simpa using hB
  | succ d ih =>
    intro i hi
    have hlt : i < row.length := by omega
    have ih := ih (i + 1) (by omega)
    rw [drop_cons row i hlt, List.all_cons, Ev_succ]
    simp only [tape_Valid.l1, Ev_ite, Ev_some, Ev_none]
    rw [if_pos (by omega), if_pos (by omega), if_pos (by omega), rdT row i hlt, wrapn i (by omega)]
    generalize row[i] = x
    obtain ⟨f0, f1, f2⟩ := x
    simp only
    by_cases hok : okR St Sy ⟨f0, f1, f2⟩
    · rw [okRb, decide_eq_true hok, Bool.true_and]
      obtain ⟨h0, h1, h2, h3, h4⟩ := hok
      simp only at h0 h1 h2 h3 h4
      rw [if_neg (by omega), if_neg (by omega)]
      rcases h2 with h2 | h2
      · rw [if_pos h2, if_neg (by omega), if_neg (by omega)]
        exact ih
      · rw [if_neg (by omega), if_pos h2, if_neg (by omega), if_neg (by omega)]
        exact ih
    · rw [okRb, decide_eq_false hok, Bool.false_and, Bool.false_and]
      simp only [okR] at hok
      by_cases c0 : f0 < 0
      · rw [if_pos c0]
      rw [if_neg c0]
      by_cases c1 : f0 ≥ Sy
      · rw [if_pos c1]
      rw [if_neg c1]
      by_cases c2 : f1 = -1
      · rw [if_pos c2]
        by_cases c3 : f2 < -1
        · rw [if_pos c3]
        rw [if_neg c3]
        by_cases c4 : f2 ≥ St
        · rw [if_pos c4]
        · exact absurd ⟨by omega, by omega, .inl c2, by omega, by omega⟩ hok
      rw [if_neg c2]
      by_cases c5 : f1 = 1
      · rw [if_pos c5]
        by_cases c3 : f2 < -1
        · rw [if_pos c3]
        rw [if_neg c3]
        by_cases c4 : f2 ≥ St
        · rw [if_pos c4]
        · exact absurd ⟨by omega, by omega, .inr c5, by omega, by omega⟩ hok
      · rw [if_neg c5]
theorem tv_rows (St Sy : Int) (rules : List (List S57)) (hl : rules.length ≤ 100000000000000) (hr : ∀ r ∈ rules, r.length ≤ 100000000000000) : ∀ (d j : Nat), j + d = rules.length →
    Ev (fun k => tape_Valid.l0 k rules (rules.length : Int) (j : Int) St Sy rules) ((rules.drop j).all (okRow St Sy)) := by
  intro d
  induction d with
  | zero =>
    intro j hj
    rw [Ev_succ]
    simp only [tape_Valid.l0, Ev_ite, Ev_some, Ev_none]
    rw [if_neg (by omega), List.drop_eq_nil_of_le (by omega)]
    rfl
  | succ d ih =>
    intro j hj
    have hlt : j < rules.length := by omega
    have ih := ih (j + 1) (by omega)
    rw [drop_cons rules j hlt, List.all_cons, Ev_succ]
    simp only [tape_Valid.l0, Ev_ite, Ev_some, Ev_none]
    rw [if_pos (by omega), if_pos (by omega), if_pos (by omega), rdL rules j hlt]
    by_cases c : ((rules[j].length : Nat) : Int) = Sy
    · rw [if_pos c, okRow, decide_eq_true c, Bool.true_and]
      have := tv_row St Sy rules rules[j] j _ (hr _ (List.getElem_mem hlt)) (by rw [wrapn j (by omega)]; exact ih) rules[j].length 0 (by omega)
      simpa using this
    · rw [if_neg c, okRow, decide_eq_false c]
      rfl
theorem tv_f (St Sy : Int) (rules : List (List S57)) (hl : rules.length ≤ 100000000000000) (hr : ∀ r ∈ rules, r.length ≤ 100000000000000) : Ev (fun k => tape_Valid.f k St Sy rules) (okM St Sy rules) := by
  have hj : ∀ b, Ev (fun k => tape_Valid.j0 k b St Sy rules) (!b && rules.all (okRow St Sy)) := by
    intro b
    rw [Ev_succ]
    simp only [tape_Valid.j0, Ev_ite, Ev_some]
    cases b with
    | true => simp
    | false =>
      have := tv_rows St Sy rules hl hr rules.length 0 (by omega)
      simpa using this
  unfold tape_Valid.f okM
  simp only [Ev_ite]
  by_cases c : 1 ≤ St ∧ St ≤ 6 ∧ 2 ≤ Sy ∧ Sy ≤ 4
  · rw [if_neg (by omega), if_neg (by omega), if_neg (by omega), if_neg (by omega)]
    have := hj ((rules.length : Int) != St)
    by_cases e : (rules.length : Int) = St
    · rw [decide_eq_true ⟨c.1, c.2.1, c.2.2.1, c.2.2.2, e⟩]
      simpa [e] using this
    · rw [decide_eq_false (fun h => e h.2.2.2.2), Bool.false_and]
      have hb : ((rules.length : Int) != St) = true := by simp [e]
      rw [hb] at this ⊢
      simpa using this
  · have h := hj true
    rw [decide_eq_false (fun h => c ⟨h.1, h.2.1, h.2.2.1, h.2.2.2.1⟩), Bool.false_and]
    simp only [Bool.not_true, Bool.false_and] at h
    by_cases c0 : St < 1
    · rw [if_pos c0]; exact h
    rw [if_neg c0]
    by_cases c1 : St > 6
    · rw [if_pos c1]; exact h
    rw [if_neg c1]
    by_cases c2 : Sy < 2
    · rw [if_pos c2]; exact h
    rw [if_neg c2]
    by_cases c3 : Sy > 4
    · rw [if_pos c3]; exact h
    · exact absurd ⟨by omega, by omega, by omega, by omega⟩ c

theorem rv_row (St Sy : Int) (rules : List (List S57)) (j : Nat) (hj : j < rules.length) (B : Bool) (hS : ((rules[j].length : Nat) : Int) = Sy) (hr : rules[j].length ≤ 100000000000000) (hB : Ev (fun k => standstillref01_Valid.l0 k (wrap64 ((j : Int) + 1)) St Sy rules) B) : ∀ (d i : Nat), i + d = rules[j].length →
    Ev (fun k => standstillref01_Valid.l1 k (j : Int) (i : Int) St Sy rules) ((rules[j].drop i).all (okRb St Sy) && B) := by
  intro d
  induction d with
  | zero =>
    intro i hi
    rw [Ev_succ]
    simp only [standstillref01_Valid.l1, Ev_ite, Ev_some, Ev_none]
    rw [if_neg (by omega), List.drop_eq_nil_of_le (by omega)]
    simpa using hB
  | succ d ih =>
    intro i hi
    have hlt : i < rules[j].length := by omega
    have ih := ih (i + 1) (by omega)
    rw [drop_cons rules[j] i hlt, List.all_cons, Ev_succ]
    simp only [standstillref01_Valid.l1, Ev_ite, Ev_some, Ev_none]
    rw [if_pos (by omega), if_pos (by omega), if_pos (by omega), if_pos (by omega), rdL rules j hj, if_pos (by omega), rdT rules[j] i hlt, wrapn i (by omega)]
    generalize rules[j][i] = x
    obtain ⟨f0, f1, f2⟩ := x
    simp only
    by_cases hok : okR St Sy ⟨f0, f1, f2⟩
    · rw [okRb, decide_eq_true hok, Bool.true_and]
      obtain ⟨h0, h1, h2, h3, h4⟩ := hok
      simp only at h0 h1 h2 h3 h4
      rw [if_neg (by omega), if_neg (by omega)]
      rcases h2 with h2 | h2
      · rw [if_pos h2, if_neg (by omega), if_neg (by omega)]
        exact ih
      · rw [if_neg (by omega), if_pos h2, if_neg (by omega), if_neg (by omega)]
        exact ih
    · rw [okRb, decide_eq_false hok, Bool.false_and, Bool.false_and]
      simp only [okR] at hok
      by_cases c0 : f0 < 0
      · rw [if_pos c0]
      rw [if_neg c0]
      by_cases c1 : f0 ≥ Sy
      · rw [if_pos c1]
      rw [if_neg c1]
      by_cases c2 : f1 = -1
      · rw [if_pos c2]
        by_cases c3 : f2 < -1
        · rw [if_pos c3]
        rw [if_neg c3]
        by_cases c4 : f2 ≥ St
        · rw [if_pos c4]
        · exact absurd ⟨by omega, by omega, .inl c2, by omega, by omega⟩ hok
      rw [if_neg c2]
      by_cases c5 : f1 = 1
      · rw [if_pos c5]
        by_cases c3 : f2 < -1
        · rw [if_pos c3]
        rw [if_neg c3]
        by_cases c4 : f2 ≥ St
        · rw [if_pos c4]
        · exact absurd ⟨by omega, by omega, .inr c5, by omega, by omega⟩ hok
      · rw [if_neg c5]
theorem rv_rows (St Sy : Int) (rules : List (List S57)) (hSt : (rules.length : Int) = St) (hl : rules.length ≤ 100000000000000) (hr : ∀ r ∈ rules, r.length ≤ 100000000000000) : ∀ (d j : Nat), j + d = rules.length →
    Ev (fun k => standstillref01_Valid.l0 k (j : Int) St Sy rules) ((rules.drop j).all (okRow St Sy)) := by
  intro d
  induction d with
  | zero =>
    intro j hj
    rw [Ev_succ]
    simp only [standstillref01_Valid.l0, Ev_ite, Ev_some, Ev_none]
    rw [if_neg (by omega), List.drop_eq_nil_of_le (by omega)]
    rfl
  | succ d ih =>
    intro j hj
    have hlt : j < rules.length := by omega
    have ih := ih (j + 1) (by omega)
    rw [drop_cons rules j hlt, List.all_cons, Ev_succ]
    simp only [standstillref01_Valid.l0, Ev_ite, Ev_some, Ev_none]
    rw [if_pos (by omega), if_pos (by omega), if_pos (by omega), rdL rules j hlt]
    by_cases c : ((rules[j].length : Nat) : Int) = Sy
    · rw [if_pos c, okRow, decide_eq_true c, Bool.true_and]
      have := rv_row St Sy rules j hlt _ c (hr _ (List.getElem_mem hlt)) (by rw [wrapn j (by omega)]; exact ih) rules[j].length 0 (by omega)
      simpa using this
    · rw [if_neg c, okRow, decide_eq_false c]
      rfl
theorem rv_f (St Sy : Int) (rules : List (List S57)) (hl : rules.length ≤ 100000000000000) (hr : ∀ r ∈ rules, r.length ≤ 100000000000000) : Ev (fun k => standstillref01_Valid.f k St Sy rules) (okM St Sy rules) := by
  have hj0 : Ev (fun k => standstillref01_Valid.j0 k true St Sy rules) false := by
    rw [Ev_succ]
    simp [standstillref01_Valid.j0, Ev_ite, Ev_some]
  unfold standstillref01_Valid.f okM
  simp only [Ev_ite]
  by_cases c : 1 ≤ St ∧ St ≤ 6 ∧ 2 ≤ Sy ∧ Sy ≤ 4
  · rw [if_neg (by omega), if_neg (by omega), if_neg (by omega), if_neg (by omega)]
    by_cases e : (rules.length : Int) = St
    · rw [decide_eq_true ⟨c.1, c.2.1, c.2.2.1, c.2.2.2, e⟩, show ((rules.length : Int) != St) = false by simp [e], Ev_succ]
      simp only [standstillref01_Valid.j0, Ev_ite, Ev_some]
      rw [if_neg (by simp)]
      have := rv_rows St Sy rules e hl hr rules.length 0 (by omega)
      simpa using this
    · rw [decide_eq_false (fun h => e h.2.2.2.2), show ((rules.length : Int) != St) = true by simp [e]]
      exact hj0
  · rw [decide_eq_false (fun h => c ⟨h.1, h.2.1, h.2.2.1, h.2.2.2.1⟩), Bool.false_and]
    by_cases c0 : St < 1
    · rw [if_pos c0]; exact hj0
    rw [if_neg c0]
    by_cases c1 : St > 6
    · rw [if_pos c1]; exact hj0
    rw [if_neg c1]
    by_cases c2 : Sy < 2
    · rw [if_pos c2]; exact hj0
    rw [if_neg c2]
    by_cases c3 : Sy > 4
    · rw [if_pos c3]; exact hj0
    · exact absurd ⟨by omega, by omega, by omega, by omega⟩ c

/-- The mirrored machine. -/
theorem okM_len {St Sy : Int} {rules : List (List S57)} (h : okM St Sy rules = true) : 1 ≤ St ∧ St ≤ 6 ∧ 2 ≤ Sy ∧ Sy ≤ 4 ∧ (rules.length : Int) = St ∧ ∀ r ∈ rules, (r.length : Int) = Sy ∧ ∀ x ∈ r, okR St Sy x := by
  unfold okM at h
  simp only [Bool.and_eq_true, decide_eq_true_eq, List.all_eq_true] at h
  refine ⟨h.1.1, h.1.2.1, h.1.2.2.1, h.1.2.2.2.1, h.1.2.2.2.2, fun r hr => ?_⟩
  have := h.2 r hr
  simp only [okRow, okRb, Bool.and_eq_true, decide_eq_true_eq, List.all_eq_true] at this
  exact this

abbrev Cf := Int × Int × List Int
section
variable (rules : List (List S57)) (n : Nat)
def ruleOf (c : Cf) : S57 := rd_T57 (rd_L2 rules c.1) (rd c.2.2 c.2.1)
def stepC (c : Cf) : Cf := ((ruleOf rules c).f2, c.2.1 + (ruleOf rules c).f1, c.2.2.set c.2.1.toNat (ruleOf rules c).f0)
def runC : Nat → Cf → Cf
  | 0, c => c
  | t + 1, c => runC t (stepC rules c)
def Inside (c : Cf) : Prop := c.1 ≠ -1 ∧ 0 ≤ c.2.1 ∧ c.2.1 < (n : Int)
def exitRes (T : Nat) (c : Cf) : Int × Int × Int × Int × List Int := ((if c.1 = -1 then 2 else if c.2.1 < 0 then 0 else 1), c.1, (T : Int), c.2.1, c.2.2.take n)
/-- What a crossing from c answers. -/
def Sem (c : Cf) (r : Int × Int × Int × Int × List Int) : Prop :=
  (∃ T : Nat, T ≤ 200000 ∧ (∀ t, t < T → Inside n (runC rules t c)) ∧ ¬ Inside n (runC rules T c) ∧ r = exitRes n T (runC rules T c)) ∨ ((∀ t, Inside n (runC rules t c)) ∧ (∃ a b, a < b ∧ b ≤ 200000 ∧ runC rules a c = runC rules b c) ∧ r = (3, 0, 0, 0, []))
theorem runC_succ (t : Nat) (c : Cf) : runC rules (t + 1) c = stepC rules (runC rules t c) := by
  induction t generalizing c with
  | zero => rfl
  | succ t ih => rw [runC, ih (stepC rules c)]; rfl
theorem runC_add (a b : Nat) (c : Cf) : runC rules (a + b) c = runC rules b (runC rules a c) := by
  induction b with
  | zero => rfl
  | succ b ih => rw [← Nat.add_assoc, runC_succ, runC_succ, ih]
theorem Sem_uniq {c : Cf} {r r' : Int × Int × Int × Int × List Int} (h : Sem rules n c r) (h' : Sem rules n c r') : r = r' := by
  rcases h with ⟨T, _, h1, h2, rfl⟩ | ⟨h1, _, rfl⟩
  · rcases h' with ⟨T', _, g1, g2, rfl⟩ | ⟨g1, _, rfl⟩
    · rcases Nat.lt_trichotomy T T' with e | e | e
      · exact absurd (g1 T e) h2
      · rw [e]
      · exact absurd (h1 T' e) g2
    · exact absurd (g1 T) h2
  · rcases h' with ⟨T', _, g1, g2, rfl⟩ | ⟨g1, _, rfl⟩
    · exact absurd (h1 T') g2
    · rfl
end
def InvC (St Sy : Int) (n : Nat) (c : Cf) : Prop := -1 ≤ c.1 ∧ c.1 < St ∧ -1 ≤ c.2.1 ∧ c.2.1 ≤ (n : Int) ∧ c.2.2.length = 6 ∧ ∀ x ∈ c.2.2, 0 ≤ x ∧ x < Sy
theorem rd_mem {l : List Int} {i : Int} (h0 : 0 ≤ i) (h1 : i < (l.length : Int)) : rd l i ∈ l := by
  obtain ⟨m, rfl⟩ := Int.eq_ofNat_of_zero_le h0
  rw [rd_nat l m (by omega)]
  exact List.getElem_mem _
theorem rule_ok {St Sy : Int} {rules : List (List S57)} (h : okM St Sy rules = true) (c : Cf) (h0 : 0 ≤ c.1) (h1 : c.1 < St) (h2 : 0 ≤ rd c.2.2 c.2.1) (h3 : rd c.2.2 c.2.1 < Sy) :
    c.1 < (rules.length : Int) ∧ rd c.2.2 c.2.1 < ((rd_L2 rules c.1).length : Int) ∧ okR St Sy (ruleOf rules c) := by
  obtain ⟨a1, a2, a3, a4, a5, a6⟩ := okM_len h
  obtain ⟨st, po, v⟩ := c
  unfold ruleOf
  simp only at *
  obtain ⟨s, rfl⟩ := Int.eq_ofNat_of_zero_le h0
  obtain ⟨y, hy⟩ := Int.eq_ofNat_of_zero_le h2
  rw [hy] at h3 ⊢
  have hs : s < rules.length := by omega
  rw [rdL rules s hs]
  obtain ⟨b1, b2⟩ := a6 _ (List.getElem_mem hs)
  have hyl : y < rules[s].length := by omega
  rw [rdT _ y hyl]
  exact ⟨by omega, by omega, b2 _ (List.getElem_mem hyl)⟩
theorem inv_step {St Sy : Int} {rules : List (List S57)} {n : Nat} (h : okM St Sy rules = true) (hn : n ≤ 6) {c : Cf} (hc : InvC St Sy n c) (hi : Inside n c) : InvC St Sy n (stepC rules c) ∧ okR St Sy (ruleOf rules c) ∧ c.1 < (rules.length : Int) ∧ 0 ≤ rd c.2.2 c.2.1 ∧ rd c.2.2 c.2.1 < ((rd_L2 rules c.1).length : Int) := by
  obtain ⟨c1, c2, c3, c4, c5, c6⟩ := hc
  obtain ⟨i1, i2, i3⟩ := hi
  obtain ⟨m1, m2⟩ := c6 _ (rd_mem (l := c.2.2) i2 (by omega))
  obtain ⟨r1, r2, r3⟩ := rule_ok h c (by omega) c2 m1 m2
  obtain ⟨o1, o2, o3, o4, o5⟩ := r3
  refine ⟨⟨o4, o5, ?_, ?_, ?_, ?_⟩, ⟨o1, o2, o3, o4, o5⟩, r1, m1, r2⟩
  · show -1 ≤ c.2.1 + (ruleOf rules c).f1
    omega
  · show c.2.1 + (ruleOf rules c).f1 ≤ (n : Int)
    omega
  · show (c.2.2.set _ _).length = 6
    rw [List.length_set]
    exact c5
  · intro x hx
    rcases List.mem_or_eq_of_mem_set hx with h1 | h1
    · exact c6 x h1
    · rw [h1]; exact ⟨o1, o2⟩
theorem inv_run {St Sy : Int} {rules : List (List S57)} {n : Nat} (h : okM St Sy rules = true) (hn : n ≤ 6) {c : Cf} (hc : InvC St Sy n c) : ∀ t, (∀ u, u < t → Inside n (runC rules u c)) → InvC St Sy n (runC rules t c) := by
  intro t
  induction t with
  | zero => intro _; exact hc
  | succ t ih =>
    intro hu
    rw [runC_succ]
    exact (inv_step h hn (ih (fun u hu' => hu u (by omega))) (hu t (by omega))).1
/-! All moments, counted. -/
def words (Sy : Nat) : Nat → List (List Int)
  | 0 => [[]]
  | m + 1 => (words Sy m).flatMap fun v => (List.range Sy).map fun x => ((x : Nat) : Int) :: v
theorem words_length (Sy : Nat) : ∀ m, (words Sy m).length = Sy ^ m := by
  intro m
  induction m with
  | zero => rfl
  | succ m ih =>
    have : ∀ l : List (List Int), (l.flatMap fun v => (List.range Sy).map fun x => ((x : Nat) : Int) :: v).length = l.length * Sy := by
      intro l
      induction l with
      | nil => simp
      | cons a l ih => rw [List.flatMap_cons, List.length_append, ih, List.length_map, List.length_range, List.length_cons, Nat.succ_mul]; omega
    rw [words, this, ih, Nat.pow_succ]
theorem mem_words (Sy : Nat) : ∀ (m : Nat) (v : List Int), v.length = m → (∀ x ∈ v, 0 ≤ x ∧ x < (Sy : Int)) → v ∈ words Sy m := by
  intro m
  induction m with
  | zero => intro v hv _; rw [List.eq_nil_of_length_eq_zero hv]; simp [words]
  | succ m ih =>
    intro v hv hx
    cases v with
    | nil => simp at hv
    | cons a v =>
      obtain ⟨h0, h1⟩ := hx a (List.mem_cons_self)
      obtain ⟨x, rfl⟩ := Int.eq_ofNat_of_zero_le h0
      rw [words, List.mem_flatMap]
      refine ⟨v, ih v (by simpa using hv) (fun y hy => hx y (List.mem_cons_of_mem _ hy)), ?_⟩
      rw [List.mem_map]
      exact ⟨x, List.mem_range.2 (by omega), rfl⟩
def univ (St Sy n : Nat) : List Cf := (List.range St).flatMap fun s => (List.range n).flatMap fun p => (words Sy 6).map fun v => (((s : Nat) : Int), ((p : Nat) : Int), v)
theorem univ_length (St Sy n : Nat) : (univ St Sy n).length = St * (n * Sy ^ 6) := by
  have h : ∀ {α β : Type} (f : α → List β) (k : Nat) (l : List α), (∀ a, (f a).length = k) → (l.flatMap f).length = l.length * k := by
    intro α β f k l hf
    induction l with
    | nil => simp
    | cons a l ih => rw [List.flatMap_cons, List.length_append, ih, hf, List.length_cons, Nat.succ_mul]; omega
  unfold univ
  rw [h _ (n * Sy ^ 6) _ (fun s => by rw [h _ (Sy ^ 6) _ (fun p => by rw [List.length_map, words_length]), List.length_range]), List.length_range]
theorem mem_univ {St Sy n : Nat} {c : Cf} (hc : InvC St Sy n c) (hi : Inside n c) : c ∈ univ St Sy n := by
  obtain ⟨st, po, v⟩ := c
  obtain ⟨c1, c2, c3, c4, c5, c6⟩ := hc
  obtain ⟨i1, i2, i3⟩ := hi
  simp only at *
  obtain ⟨s, rfl⟩ := Int.eq_ofNat_of_zero_le (show 0 ≤ st by omega)
  obtain ⟨p, rfl⟩ := Int.eq_ofNat_of_zero_le i2
  unfold univ
  rw [List.mem_flatMap]
  refine ⟨s, List.mem_range.2 (by omega), ?_⟩
  rw [List.mem_flatMap]
  refine ⟨p, List.mem_range.2 (by omega), ?_⟩
  rw [List.mem_map]
  exact ⟨v, mem_words Sy 6 v c5 c6, rfl⟩
theorem cnt_lt {α : Type} (l : List α) (p q : α → Bool) (h : ∀ x, q x = true → p x = true) {a : α} (ha : a ∈ l) (hp : p a = true) (hq : q a = false) : l.countP q < l.countP p := by
  induction l with
  | nil => cases ha
  | cons b l ih =>
    have hle : l.countP q ≤ l.countP p := List.countP_mono_left (fun x _ => h x)
    rw [List.countP_cons, List.countP_cons]
    rcases List.mem_cons.1 ha with rfl | ha
    · rw [hp, hq]
      simp
      omega
    · have := ih ha
      cases hb : q b with
      | true => rw [h b hb]; simp; omega
      | false => cases hb2 : p b <;> simp <;> omega
def unseen (U seen : List Cf) : Nat := U.countP (fun x => decide (x ∉ seen))
theorem unseen_lt {U seen : List Cf} {c : Cf} (hc : c ∈ U) (hs : c ∉ seen) : unseen U (c :: seen) < unseen U seen := by
  refine cnt_lt U _ _ (fun x hx => ?_) hc (by simpa using hs) (by simp)
  rw [decide_eq_true_eq] at hx ⊢
  exact fun h => hx (List.mem_cons_of_mem _ h)
theorem okK_of {St Sy : Int} {n : Nat} {c : Cf} (hc : InvC St Sy n c) (hSt : St ≤ 6) (hSy : Sy ≤ 4) (hn : n ≤ 6) : okK c.1 c.2.1 c.2.2 = true := by
  obtain ⟨c1, c2, c3, c4, c5, c6⟩ := hc
  unfold okK
  rw [Bool.and_eq_true, decide_eq_true_eq, List.all_eq_true]
  refine ⟨⟨c1, by omega, c3, by omega⟩, fun x hx => ?_⟩
  rw [decide_eq_true_eq]
  have := c6 x hx
  omega
/-- A moment that was there before: the run never leaves. -/
theorem never {rules : List (List S57)} {n : Nat} {c : Cf} {a b : Nat} (hab : a < b) (he : runC rules a c = runC rules b c) (hi : ∀ t, t < b → Inside n (runC rules t c)) : ∀ t, Inside n (runC rules t c) := by
  intro t
  induction t using Nat.strongRecOn with
  | _ t ih =>
    by_cases h : t < b
    · exact hi t h
    · have e : t = b + (t - b) := by omega
      have e2 : runC rules t c = runC rules (a + (t - b)) c := by
        conv => lhs; rw [e]
        rw [runC_add, runC_add, he]
      rw [e2]
      exact ih _ (by omega)
theorem cross_loop {St Sy n : Nat} {rules : List (List S57)} (h : okM St Sy rules = true) (hn : n ≤ 6) (c0 : Cf) (hc0 : InvC St Sy n c0) : ∀ (m : Nat) (seen : List Cf) (i : Nat), unseen (univ St Sy n) seen ≤ m → i + m ≤ 200000 →
    (∀ x : Cf, x ∈ seen ↔ ∃ t, t < i ∧ runC rules t c0 = x) → (∀ t, t < i → Inside n (runC rules t c0)) →
    ∃ r, Ev (fun k => crossGo rules n k (runC rules i c0).1 (runC rules i c0).2.1 (runC rules i c0).2.2 seen (i : Int)) r ∧ Sem rules n c0 r := by
  obtain ⟨a1, a2, a3, a4, a5, a6⟩ := okM_len h
  intro m
  induction m with
  | zero =>
    intro seen i hm hi hs hin
    have hc := inv_run h hn hc0 i hin
    by_cases hI : Inside n (runC rules i c0)
    · by_cases hmem : runC rules i c0 ∈ seen
      · obtain ⟨t, ht, he⟩ := (hs _).1 hmem
        refine ⟨(3, 0, 0, 0, []), ?_, .inr ⟨never ht he hin, ⟨t, i, ht, by omega, he⟩, rfl⟩⟩
        generalize hcc : runC rules i c0 = c at *
        obtain ⟨st, po, v⟩ := c
        obtain ⟨i1, i2, i3⟩ := hI
        simp only at i1 i2 i3 ⊢
        rw [Ev_succ]
        simp only [crossGo, Ev_ite]
        rw [if_neg i1, if_neg (by omega), if_neg (by omega), if_pos (okK_of hc (by omega) (by omega) hn), if_pos hmem]
        exact Ev.now _
      · have := unseen_lt (mem_univ hc hI) hmem
        omega
    · refine ⟨exitRes n i (runC rules i c0), ?_, .inl ⟨i, by omega, hin, hI, rfl⟩⟩
      generalize hcc : runC rules i c0 = c at *
      obtain ⟨st, po, v⟩ := c
      obtain ⟨c1, c2, c3, c4, c5, c6⟩ := hc
      simp only [Inside] at hI c1 c2 c3 c4 ⊢
      rw [Ev_succ]
      simp only [crossGo, Ev_ite, exitRes]
      by_cases k1 : st = -1
      · rw [if_pos k1, if_pos k1]; exact Ev.now _
      · rw [if_neg k1, if_neg k1]
        by_cases k2 : po < 0
        · rw [if_pos k2, if_pos k2]; exact Ev.now _
        · rw [if_neg k2, if_neg k2, if_pos (by omega)]; exact Ev.now _
  | succ m ih =>
    intro seen i hm hi hs hin
    have hc := inv_run h hn hc0 i hin
    by_cases hI : Inside n (runC rules i c0)
    · by_cases hmem : runC rules i c0 ∈ seen
      · obtain ⟨t, ht, he⟩ := (hs _).1 hmem
        refine ⟨(3, 0, 0, 0, []), ?_, .inr ⟨never ht he hin, ⟨t, i, ht, by omega, he⟩, rfl⟩⟩
        generalize hcc : runC rules i c0 = c at *
        obtain ⟨st, po, v⟩ := c
        obtain ⟨i1, i2, i3⟩ := hI
        simp only at i1 i2 i3 ⊢
        rw [Ev_succ]
        simp only [crossGo, Ev_ite]
        rw [if_neg i1, if_neg (by omega), if_neg (by omega), if_pos (okK_of hc (by omega) (by omega) hn), if_pos hmem]
        exact Ev.now _
      · have hlt := unseen_lt (mem_univ hc hI) hmem
        obtain ⟨r, hr, hS⟩ := ih (runC rules i c0 :: seen) (i + 1) (by omega) (by omega) (fun x => by
          rw [List.mem_cons, hs]
          constructor
          · rintro (rfl | ⟨t, ht, he⟩)
            · exact ⟨i, by omega, rfl⟩
            · exact ⟨t, by omega, he⟩
          · rintro ⟨t, ht, he⟩
            by_cases hti : t = i
            · subst hti; exact .inl he.symm
            · exact .inr ⟨t, by omega, he⟩) (fun t ht => by
          by_cases hti : t = i
          · rw [hti]; exact hI
          · exact hin t (by omega))
        refine ⟨r, ?_, hS⟩
        rw [runC_succ] at hr
        obtain ⟨s1, s2, s3, s4, s5⟩ := inv_step h hn hc hI
        have hc' := hc
        have hK := okK_of hc (by omega) (by omega) hn
        generalize hcc : runC rules i c0 = c at *
        obtain ⟨st, po, v⟩ := c
        obtain ⟨i1, i2, i3⟩ := hI
        obtain ⟨o1, o2, o3, o4, o5⟩ := s2
        obtain ⟨c1, c2, c3, c4, c5, c6⟩ := hc'
        simp only [ruleOf, stepC] at i1 i2 i3 s3 s4 s5 o1 o2 o3 o4 o5 c1 c2 hr ⊢
        rw [Ev_succ]
        simp only [crossGo, Ev_ite, Ev_none]
        rw [if_neg i1, if_neg (by omega), if_neg (by omega), if_pos hK, if_neg hmem, if_pos ⟨by omega, s3, by omega⟩, if_pos ⟨s4, s5⟩, if_pos ⟨o1, by omega, by omega, by omega⟩, wrapn i (by omega)]
        exact hr
    · refine ⟨exitRes n i (runC rules i c0), ?_, .inl ⟨i, by omega, hin, hI, rfl⟩⟩
      generalize hcc : runC rules i c0 = c at *
      obtain ⟨st, po, v⟩ := c
      obtain ⟨c1, c2, c3, c4, c5, c6⟩ := hc
      simp only [Inside] at hI c1 c2 c3 c4 ⊢
      rw [Ev_succ]
      simp only [crossGo, Ev_ite, exitRes]
      by_cases k1 : st = -1
      · rw [if_pos k1, if_pos k1]; exact Ev.now _
      · rw [if_neg k1, if_neg k1]
        by_cases k2 : po < 0
        · rw [if_pos k2, if_pos k2]; exact Ev.now _
        · rw [if_neg k2, if_neg k2, if_pos (by omega)]; exact Ev.now _
def pad (w : List Int) : List Int := w ++ List.replicate (6 - w.length) 0
theorem pad_inv {St Sy : Int} {st po : Int} {w : List Int} (h0 : 0 ≤ st) (h1 : st < St) (h2 : 0 ≤ po) (h3 : po < (w.length : Int)) (h4 : w.length ≤ 6) (h5 : ∀ x ∈ w, 0 ≤ x ∧ x < Sy) (hS : 2 ≤ Sy) : InvC St Sy w.length (st, po, pad w) := by
  refine ⟨by simp only; omega, h1, by simp only; omega, by simp only; omega, by simp [pad]; omega, fun x hx => ?_⟩
  rcases List.mem_append.1 hx with hx | hx
  · exact h5 x hx
  · rw [List.mem_replicate] at hx
    omega
theorem cross_f {St Sy : Int} {rules : List (List S57)} (h : okM St Sy rules = true) {st po : Int} {w : List Int} (h0 : 0 ≤ st) (h1 : st < St) (h2 : 0 ≤ po) (h3 : po < (w.length : Int)) (h4 : w.length ≤ 6) (h5 : ∀ x ∈ w, 0 ≤ x ∧ x < Sy) :
    ∃ r, Ev (fun k => block_cross.f k St Sy rules st po w) r ∧ Sem rules w.length (st, po, pad w) r := by
  obtain ⟨a1, a2, a3, a4, a5, a6⟩ := okM_len h
  obtain ⟨S, rfl⟩ := Int.eq_ofNat_of_zero_le (show 0 ≤ St by omega)
  obtain ⟨Y, rfl⟩ := Int.eq_ofNat_of_zero_le (show 0 ≤ Sy by omega)
  have hU : (univ S Y w.length).length ≤ 147456 := by
    rw [univ_length]
    have hY : Y ^ 6 ≤ 4 ^ 6 := Nat.pow_le_pow_left (by omega) 6
    calc S * (w.length * Y ^ 6) ≤ 6 * (6 * 4 ^ 6) := Nat.mul_le_mul (by omega) (Nat.mul_le_mul h4 hY)
      _ = 147456 := by decide
  have hu : unseen (univ S Y w.length) [] ≤ 147456 := Nat.le_trans List.countP_le_length hU
  obtain ⟨r, hr, hS⟩ := cross_loop h h4 (st, po, pad w) (pad_inv h0 h1 h2 h3 h4 h5 a3) 147456 [] 0 hu (by omega) (fun x => by simp) (fun t ht => by omega)
  refine ⟨r, ?_, hS⟩
  unfold block_cross.f
  simp only [if_pos h4]
  exact hr
/-- Cross: what it answers to every question about a valid machine. -/
def goodArgs (St Sy st po : Int) (w : List Int) : Prop := 0 ≤ st ∧ st < St ∧ 1 ≤ w.length ∧ w.length ≤ 6 ∧ 0 ≤ po ∧ po < (w.length : Int) ∧ ∀ x ∈ w, 0 ≤ x ∧ x < Sy
instance (St Sy st po : Int) (w : List Int) : Decidable (goodArgs St Sy st po w) := by unfold goodArgs; infer_instance
def withOk (r : Int × Int × Int × Int × List Int) : Int × Int × Int × Int × List Int × Int := (r.1, r.2.1, r.2.2.1, r.2.2.2.1, r.2.2.2.2, 0)
theorem Cross_l0 {St Sy : Int} {rules : List (List S57)} (st po : Int) (w : List Int) (hw : w.length ≤ 6) : ∀ (d i : Nat), i + d = w.length →
    ((∀ x ∈ w.drop i, 0 ≤ x ∧ x < Sy) → ∀ r, Ev (fun k => block_cross.f k St Sy rules st po w) r → Ev (fun k => block_Cross.l0 k st po w w (w.length : Int) (i : Int) St Sy rules) (withOk r)) ∧
    (¬ (∀ x ∈ w.drop i, 0 ≤ x ∧ x < Sy) → Ev (fun k => block_Cross.l0 k st po w w (w.length : Int) (i : Int) St Sy rules) (0, 0, 0, 0, [], 2)) := by
  intro d
  induction d with
  | zero =>
    intro i hi
    have e : w.drop i = [] := List.drop_eq_nil_of_le (by omega)
    refine ⟨fun _ r hr => ?_, fun h => absurd (fun x hx => by rw [e] at hx; cases hx) h⟩
    rw [Ev_succ]
    simp only [block_Cross.l0, Ev_ite, Ev_none]
    rw [if_neg (by omega), Ev_bind hr]
    exact Ev.now _
  | succ d ih =>
    intro i hi
    have hlt : i < w.length := by omega
    obtain ⟨ih1, ih2⟩ := ih (i + 1) (by omega)
    rw [drop_cons w i hlt]
    have hd : (∀ x ∈ w[i] :: w.drop (i + 1), 0 ≤ x ∧ x < Sy) ↔ (0 ≤ w[i] ∧ w[i] < Sy) ∧ ∀ x ∈ w.drop (i + 1), 0 ≤ x ∧ x < Sy := List.forall_mem_cons
    rw [hd]
    have body : ∀ R, ((0 ≤ w[i] ∧ w[i] < Sy) → Ev (fun k => block_Cross.l0 k st po w w (w.length : Int) ((i + 1 : Nat) : Int) St Sy rules) R) → (¬ (0 ≤ w[i] ∧ w[i] < Sy) → R = (0, 0, 0, 0, [], 2)) → Ev (fun k => block_Cross.l0 k st po w w (w.length : Int) (i : Int) St Sy rules) R := by
      intro R h1 h2
      rw [Ev_succ]
      simp only [block_Cross.l0, Ev_ite, Ev_none]
      rw [if_pos (by omega), if_pos (by omega), if_pos (by omega), rd_nat w i hlt, wrapn i (by omega)]
      by_cases k1 : w[i] < 0
      · rw [if_pos k1, h2 (by omega)]; exact Ev.now _
      rw [if_neg k1]
      by_cases k2 : w[i] ≥ Sy
      · rw [if_pos k2, h2 (by omega)]; exact Ev.now _
      rw [if_neg k2]
      exact h1 ⟨by omega, by omega⟩
    refine ⟨fun h r hr => body _ (fun _ => ih1 h.2 r hr) (fun h3 => absurd h.1 h3), fun h => body _ (fun h3 => ih2 (fun h4 => h ⟨h3, h4⟩)) (fun _ => rfl)⟩
theorem Cross_ev {St Sy : Int} {rules : List (List S57)} (h : okM St Sy rules = true) (st po : Int) (w : List Int) (hw : w.length ≤ 100000) :
    (goodArgs St Sy st po w → ∃ r, Ev (fun k => block_Cross.f k St Sy rules st po w) (withOk r) ∧ Sem rules w.length (st, po, pad w) r) ∧
    (¬ goodArgs St Sy st po w → Ev (fun k => block_Cross.f k St Sy rules st po w) (0, 0, 0, 0, [], 2)) := by
  obtain ⟨a1, a2, a3, a4, a5, a6⟩ := okM_len h
  have htv := tv_f St Sy rules (by omega) (fun r hr => by have := (a6 r hr).1; omega)
  rw [h] at htv
  have bad : Ev (fun k => block_Cross.j0 k st po w true St Sy rules) (0, 0, 0, 0, [], 2) := by
    rw [Ev_succ]
    simp only [block_Cross.j0, if_true]
    exact Ev.now _
  have good : Ev (fun k => block_Cross.l0 k st po w w (w.length : Int) 0 St Sy rules) = Ev (fun k => block_Cross.l0 k st po w w (w.length : Int) ((0 : Nat) : Int) St Sy rules) := rfl
  have hj : ∀ R, Ev (fun k => block_Cross.l0 k st po w w (w.length : Int) 0 St Sy rules) R → Ev (fun k => block_Cross.j0 k st po w false St Sy rules) R := by
    intro R hR
    rw [Ev_succ]
    simp only [block_Cross.j0, Ev_ite, Bool.false_eq_true, if_false]
    exact hR
  constructor
  · rintro ⟨g1, g2, g3, g4, g5, g6, g7⟩
    obtain ⟨r, hr, hS⟩ := cross_f h g1 g2 g5 g6 g4 g7
    refine ⟨r, ?_, hS⟩
    unfold block_Cross.f
    rw [Ev_bind htv]
    simp only [if_true, Ev_ite]
    rw [if_neg (by omega), if_neg (by omega), if_neg (by omega), if_neg (by omega), if_neg (by omega), decide_eq_false (by omega)]
    exact hj _ ((Cross_l0 st po w g4 w.length 0 (by omega)).1 g7 r hr)
  · intro hg
    unfold block_Cross.f
    rw [Ev_bind htv]
    simp only [if_true, Ev_ite]
    split
    · exact bad
    split
    · exact bad
    split
    · exact bad
    split
    · exact bad
    split
    · exact bad
    · by_cases k : po ≥ (w.length : Int)
      · rw [decide_eq_true k]; exact bad
      · rw [decide_eq_false k]
        refine hj _ ((Cross_l0 st po w (by omega) w.length 0 (by omega)).2 (fun hx => hg ⟨by omega, by omega, by omega, by omega, by omega, by omega, hx⟩))

theorem same_loop (l : List Int) (hl : l.length ≤ 100000) : ∀ (d i : Nat), i + d = l.length → Ev (fun k => standstillref01_SameInts.l0 k l l (i : Int)) true := by
  intro d
  induction d with
  | zero =>
    intro i hi
    rw [Ev_succ]
    simp only [standstillref01_SameInts.l0, Ev_ite, Ev_none]
    rw [if_neg (by omega)]
    exact Ev.now _
  | succ d ih =>
    intro i hi
    have ih := ih (i + 1) (by omega)
    rw [Ev_succ]
    simp only [standstillref01_SameInts.l0, Ev_ite, Ev_none]
    rw [if_pos (by omega), if_pos (by omega), if_pos (by omega), if_pos trivial, wrapn i (by omega)]
    exact ih
theorem same_ev (l : List Int) (hl : l.length ≤ 100000) : Ev (fun k => standstillref01_SameInts.f k l l) true := by
  unfold standstillref01_SameInts.f
  simp only [if_true]
  exact same_loop l hl l.length 0 (by omega)
theorem awake_ev : Ev (fun k => standstilllaw05_awake.f k) true := Ev.of (k := 80) standstilllaw05_awake.mono (by decide +kernel)
theorem awake_b : Ev (fun k => (standstilllaw05_awake.f k).bind fun t => some t) true := by
  rw [Ev_bind awake_ev]
  exact Ev.now _
theorem wide_tot (rules : List (List S57)) (x y : Int) (hl : rules.length ≤ 10000000000000) (hr : ∀ r ∈ rules, r.length ≤ 10000000000000) : ∀ (d i : Nat) (n : Int), i + d = rules.length → 0 ≤ n → n ≤ 100000000000000000 →
    ∃ b, Ev (fun k => standstilllaw05_wide.l0 k n (i : Int) x y rules) b := by
  intro d
  induction d with
  | zero =>
    intro i n hi h0 h1
    refine ⟨decide (n > 1000), ?_⟩
    rw [Ev_succ]
    simp only [standstilllaw05_wide.l0, Ev_ite, Ev_none]
    rw [if_neg (by omega)]
    exact Ev.now _
  | succ d ih =>
    intro i n hi h0 h1
    have hlt : i < rules.length := by omega
    by_cases c : n ≤ 1000
    · have hm := hr _ (List.getElem_mem hlt)
      have e : wrap64 (n + (rules[i].length : Int)) = n + (rules[i].length : Int) := wrap_id (by omega) (by omega)
      obtain ⟨b, hb⟩ := ih (i + 1) (n + (rules[i].length : Int)) (by omega) (by omega) (by omega)
      refine ⟨b, ?_⟩
      rw [Ev_succ]
      simp only [standstilllaw05_wide.l0, Ev_ite, Ev_none]
      rw [if_pos (by omega), if_pos c, if_pos (by omega), rdL rules i hlt, e, wrapn i (by omega)]
      exact hb
    · refine ⟨decide (n > 1000), ?_⟩
      rw [Ev_succ]
      simp only [standstilllaw05_wide.l0, Ev_ite, Ev_none]
      rw [if_pos (by omega), if_neg c]
      exact Ev.now _
theorem exit_word {St Sy : Int} {rules : List (List S57)} (h : okM St Sy rules = true) {n : Nat} (hn : n ≤ 6) {c : Cf} (hc : InvC St Sy n c) {r : Int × Int × Int × Int × List Int} (hS : Sem rules n c r) : r.2.2.2.2.length ≤ 6 ∧ (r.1 = 0 ∨ r.1 = 1 ∨ r.1 = 2 ∨ r.1 = 3) ∧ -1 ≤ r.2.2.2.1 ∧ r.2.2.2.1 ≤ 6 := by
  rcases hS with ⟨T, h0, h1, h2, rfl⟩ | ⟨h1, _, rfl⟩
  · obtain ⟨c1, c2, c3, c4, c5, c6⟩ := inv_run h hn hc T h1
    unfold exitRes
    refine ⟨by simp only; rw [List.length_take]; omega, ?_, by simp only; omega, by simp only; omega⟩
    simp only
    split
    · simp
    · split <;> simp
  · exact ⟨by simp, by simp, by simp, by simp⟩

def symB (Sy : Int) (l : List Int) : Bool := l.all (fun x => decide (0 ≤ x ∧ x < Sy))
theorem symB_iff {Sy : Int} {l : List Int} : symB Sy l = true ↔ ∀ x ∈ l, 0 ≤ x ∧ x < Sy := by
  unfold symB
  rw [List.all_eq_true]
  constructor
  · intro h x hx; exact of_decide_eq_true (h x hx)
  · intro h x hx; exact decide_eq_true (h x hx)
theorem word_ev (St Sy : Int) (rules : List (List S57)) (w : List Int) (hw : w.length ≤ 100000) : Ev (fun k => standstillref05_Word.f k St Sy rules w) (symB Sy w && decide (1 ≤ w.length ∧ w.length ≤ 6)) := by
  have H : ∀ (d i : Nat), i + d = w.length → Ev (fun k => standstillref05_Word.l0 k w (i : Int) St Sy rules) (symB Sy (w.drop i) && decide (1 ≤ w.length ∧ w.length ≤ 6)) := by
    intro d
    induction d with
    | zero =>
      intro i hi
      have e : w.drop i = [] := List.drop_eq_nil_of_le (by omega)
      rw [Ev_succ]
      simp only [standstillref05_Word.l0, Ev_ite, Ev_none]
      rw [if_neg (by omega), e]
      have hs : symB Sy [] = true := rfl
      rw [hs, Bool.true_and]
      by_cases k : (w.length : Int) ≥ 1
      · rw [if_pos k]
        have : decide ((w.length : Int) ≤ 6) = decide (1 ≤ w.length ∧ w.length ≤ 6) := by
          rw [decide_eq_decide]
          omega
        rw [← this]
        exact Ev.now _
      · rw [if_neg k, decide_eq_false (by omega)]
        exact Ev.now _
    | succ d ih =>
      intro i hi
      have hlt : i < w.length := by omega
      have ih := ih (i + 1) (by omega)
      rw [drop_cons w i hlt]
      have hs : symB Sy (w[i] :: w.drop (i + 1)) = (decide (0 ≤ w[i] ∧ w[i] < Sy) && symB Sy (w.drop (i + 1))) := rfl
      rw [hs, Ev_succ]
      simp only [standstillref05_Word.l0, Ev_ite, Ev_none]
      rw [if_pos (by omega), if_pos (by omega), rd_nat w i hlt, wrapn i (by omega)]
      by_cases k1 : w[i] < 0
      · rw [if_pos k1, decide_eq_false (by omega)]; exact Ev.now _
      rw [if_neg k1]
      by_cases k2 : w[i] ≥ Sy
      · rw [if_pos k2, decide_eq_false (by omega)]; exact Ev.now _
      rw [if_neg k2, decide_eq_true (show 0 ≤ w[i] ∧ w[i] < Sy by omega), Bool.true_and]
      exact ih
  unfold standstillref05_Word.f
  exact H w.length 0 (by omega)

theorem runC_len (rules : List (List S57)) : ∀ (t : Nat) (c : Cf), (runC rules t c).2.2.length = c.2.2.length := by
  intro t
  induction t with
  | zero => intro c; rfl
  | succ t ih => intro c; rw [runC, ih]; exact List.length_set
def glue (x : List Int) (f m : Nat) (v : List Int) : List Int := x.take f ++ v.take m ++ x.drop (f + m)
/-- The moment of the whole block that a moment of its part [f, f + m) stands for. -/
def up (x : List Int) (f m : Nat) (c : Cf) : Cf := (c.1, c.2.1 + f, pad (glue x f m c.2.2))
theorem glue_len {x : List Int} {f m : Nat} {v : List Int} (hx : f + m ≤ x.length) (hv : m ≤ v.length) : (glue x f m v).length = x.length := by
  unfold glue
  rw [List.length_append, List.length_append, List.length_take, List.length_take, List.length_drop]
  omega
theorem up_step {rules : List (List S57)} {x : List Int} {f m : Nat} {c : Cf} (hx : f + m ≤ x.length) (hv : m ≤ c.2.2.length) (hI : Inside m c) : stepC rules (up x f m c) = up x f m (stepC rules c) := by
  obtain ⟨s, p, v⟩ := c
  obtain ⟨i1, i2, i3⟩ := hI
  simp only at i1 i2 i3 hv
  obtain ⟨q, rfl⟩ := Int.eq_ofNat_of_zero_le i2
  have hq : q < m := by omega
  have hl := glue_len hx hv
  have hg : ∀ y : List Int, y.length = m → ∀ z : Int, (pad (x.take f ++ y ++ x.drop (f + m))).set (f + q) z = pad (x.take f ++ y.set q z ++ x.drop (f + m)) := by
    intro y hy z
    unfold pad
    have e1 : (x.take f).length = f := by rw [List.length_take]; omega
    rw [List.set_append, if_pos (by rw [List.length_append, List.length_append, List.length_drop, e1]; omega), List.set_append, if_pos (by rw [List.length_append, e1]; omega), List.set_append, if_neg (by rw [e1]; omega), e1, Nat.add_sub_cancel_left]
    simp only [List.length_append, List.length_set]
  have hr : rd (pad (glue x f m v)) ((q : Int) + (f : Int)) = rd v (q : Int) := by
    have e : ((q : Int) + (f : Int)) = ((f + q : Nat) : Int) := by omega
    have hlt : f + q < (pad (glue x f m v)).length := by unfold pad; rw [List.length_append]; omega
    rw [e, rd_nat _ _ hlt, rd_nat _ _ (show q < v.length by omega)]
    have e1 : (x.take f).length = f := by rw [List.length_take]; omega
    have e2 : (v.take m).length = m := by rw [List.length_take]; omega
    apply Option.some.inj
    rw [← List.getElem?_eq_getElem, ← List.getElem?_eq_getElem]
    unfold pad glue
    rw [List.getElem?_append_left (by rw [List.length_append, List.length_append, List.length_drop, e1, e2]; omega), List.getElem?_append_left (by rw [List.length_append, e1, e2]; omega), List.getElem?_append_right (by rw [e1]; omega), e1, Nat.add_sub_cancel_left, List.getElem?_take_of_lt hq]
  have hR : ruleOf rules (up x f m (s, (q : Int), v)) = ruleOf rules (s, (q : Int), v) := by
    unfold ruleOf up
    simp only [hr]
  unfold stepC
  rw [hR]
  generalize ruleOf rules (s, (q : Int), v) = R
  unfold up
  simp only
  have e3 : ((q : Int) + (f : Int)).toNat = f + q := by omega
  have e4 : ((q : Int)).toNat = q := by omega
  rw [e3, e4, show glue x f m v = x.take f ++ v.take m ++ x.drop (f + m) from rfl, hg _ (by rw [List.length_take]; omega)]
  unfold glue
  rw [List.take_set]
  refine Prod.ext rfl (Prod.ext ?_ rfl)
  show (q : Int) + (f : Int) + R.f1 = (q : Int) + R.f1 + (f : Int)
  omega
theorem up_run {rules : List (List S57)} {x : List Int} {f m : Nat} {c : Cf} (hx : f + m ≤ x.length) (hv : m ≤ c.2.2.length) : ∀ t, (∀ u, u < t → Inside m (runC rules u c)) → runC rules t (up x f m c) = up x f m (runC rules t c) := by
  intro t
  induction t with
  | zero => intro _; rfl
  | succ t ih =>
    intro hu
    rw [runC_succ, runC_succ, ih (fun u h => hu u (by omega)), up_step hx (by rw [runC_len]; exact hv) (hu t (by omega))]
theorem up_start {x : List Int} {f m : Nat} (hx : f + m ≤ x.length) (s p : Int) : up x f m (s, p - f, pad ((x.take (f + m)).drop f)) = (s, p, pad x) := by
  have e : (x.take (f + m)).drop f = (x.drop f).take m := by rw [List.drop_take, Nat.add_sub_cancel_left]
  have hl : ((x.drop f).take m).length = m := by rw [List.length_take, List.length_drop]; omega
  have e2 : (pad ((x.drop f).take m)).take m = (x.drop f).take m := by
    unfold pad
    rw [List.take_append_of_le_length (by omega), List.take_of_length_le (by omega)]
  have e3 : glue x f m (pad ((x.drop f).take m)) = x := by
    unfold glue
    rw [e2, List.append_assoc, ← List.drop_drop, List.take_append_drop, List.take_append_drop]
  unfold up
  simp only [e, e3]
  refine Prod.ext rfl (Prod.ext ?_ rfl)
  show p - (f : Int) + (f : Int) = p
  omega
theorem up_in {x : List Int} {f m n : Nat} {c : Cf} (hx : f + m ≤ n) (hI : Inside m c) : Inside n (up x f m c) := by
  obtain ⟨i1, i2, i3⟩ := hI
  refine ⟨i1, ?_, ?_⟩
  · show 0 ≤ c.2.1 + (f : Int)
    omega
  · show c.2.1 + (f : Int) < (n : Int)
    omega
theorem copy_loop {St Sy : Int} {rules : List (List S57)} (w : List Int) (kk : Int) (x : List Int) (f : Nat) (v : List Int) (hx : f + v.length ≤ x.length) (hn : x.length ≤ 100) (x15 x16 : Int) (y0 y1 y2 y3 : Int) (y4 : List Int) (z0 z1 z2 z3 : Int) (R : Bool) :
    (Ev (fun k => if z0 = 2 then (standstilllaw05_BlockParts.j6 k z1 (wrap64 (f + z3)) w kk (glue x f v.length v) (wrap64 (x15 + z2)) x16 true St Sy rules y0 y1 y2 y3 y4 z0 z1 z2 z3 v) else (if (wrap64 (f + z3)) < 0 then (standstilllaw05_BlockParts.j6 k z1 (wrap64 (f + z3)) w kk (glue x f v.length v) (wrap64 (x15 + z2)) x16 true St Sy rules y0 y1 y2 y3 y4 z0 z1 z2 z3 v) else (standstilllaw05_BlockParts.j6 k z1 (wrap64 (f + z3)) w kk (glue x f v.length v) (wrap64 (x15 + z2)) x16 (decide ((wrap64 (f + z3)) ≥ (w.length : Int))) St Sy rules y0 y1 y2 y3 y4 z0 z1 z2 z3 v))) R) →
    ∀ (d i : Nat), i + d = v.length → Ev (fun k => standstilllaw05_BlockParts.l1 k w kk (x.take f ++ v.take i ++ x.drop (f + i)) x15 x16 (f : Int) (i : Int) St Sy rules y0 y1 y2 y3 y4 z0 z1 z2 z3 v) R := by
  intro hR d
  induction d with
  | zero =>
    intro i hi
    have hi' : i = v.length := by omega
    subst hi'
    rw [Ev_succ]
    simp only [standstilllaw05_BlockParts.l1, Ev_ite, Ev_none]
    rw [if_neg (by omega)]
    simp only [Ev_ite] at hR
    exact hR
  | succ d ih =>
    intro i hi
    have hlt : i < v.length := by omega
    have ih := ih (i + 1) (by omega)
    have e1 : (x.take f).length = f := by rw [List.length_take]; omega
    have e2 : (v.take i).length = i := by rw [List.length_take]; omega
    have e3 : (wrap64 ((f : Int) + (i : Int))) = ((f + i : Nat) : Int) := by rw [wrap_id (by omega) (by omega)]; omega
    have hset : (x.take f ++ v.take i ++ x.drop (f + i)).set (f + i) v[i] = x.take f ++ v.take (i + 1) ++ x.drop (f + (i + 1)) := by
      rw [List.set_append, if_neg (by rw [List.length_append, e1, e2]; omega), List.length_append, e1, e2, Nat.sub_self, drop_cons x (f + i) (by omega), List.set_cons_zero, take_snoc v i hlt]
      simp only [List.append_assoc, List.cons_append, List.nil_append]
      rfl
    rw [← hset] at ih
    rw [Ev_succ]
    simp only [standstilllaw05_BlockParts.l1, Ev_ite, Ev_none]
    rw [if_pos (by omega), if_pos (by omega), e3, if_pos (by omega), if_pos (by rw [List.length_append, List.length_append, e1, e2, List.length_drop]; omega), wrapn i (by omega), rd_nat v i hlt]
    have e4 : (((f + i : Nat) : Int)).toNat = f + i := by omega
    rw [e4]
    exact ih

theorem part_end {St Sy : Int} {rules : List (List S57)} (w : List Int) (kk x16 : Int) (k0 s S P : Int) (cs : List Int) (z2 z3 : Int) (z4 : List Int) (hl : cs.length ≤ 100) : Ev (fun k => standstilllaw05_BlockParts.j6 k s P w kk cs S x16 true St Sy rules k0 s S P cs k0 s z2 z3 z4) true := by
  rw [Ev_succ]
  simp only [standstilllaw05_BlockParts.j6, Ev_ite, if_true]
  rw [Ev_bind (same_ev cs (by omega))]
  simp only [if_true]
  exact awake_b
theorem part_round {St Sy : Int} {rules : List (List S57)} (hM : okM St Sy rules = true) (w : List Int) (hn : w.length ≤ 6) (c0 : Cf) (hc0 : InvC St Sy w.length c0) (r0 : Int × Int × Int × Int × List Int) (hS0 : Sem rules w.length c0 r0)
    (kk : Int) (j nn : Nat) (s p : Int) (cs : List Int) (hj : runC rules j c0 = (s, p, pad cs)) (hcs : cs.length = w.length) (hin : ∀ u, u ≤ j → Inside w.length (runC rules u c0)) (hjb : j ≤ 1000000000000000) (hnb : nn ≤ 1000000000)
    (f m : Nat) (hm : 1 ≤ m) (hfm : f + m ≤ w.length) (hp : (f : Int) ≤ p) (hp2 : p < (f : Int) + m)
    (hnext : ∀ (j' : Nat) (s' p' : Int) (cs' : List Int), j < j' → j' ≤ j + 200000 → runC rules j' c0 = (s', p', pad cs') → cs'.length = w.length → (∀ u, u ≤ j' → Inside w.length (runC rules u c0)) →
      Ev (fun k => standstilllaw05_BlockParts.l0 k s' p' w kk cs' (j' : Int) ((nn + 1 : Nat) : Int) St Sy rules r0.1 r0.2.1 r0.2.2.1 r0.2.2.2.1 r0.2.2.2.2) true) :
    Ev (fun k => standstilllaw05_BlockParts.j3 k s p w kk cs (j : Int) (nn : Int) (f : Int) ((f + m : Nat) : Int) St Sy rules r0.1 r0.2.1 r0.2.2.1 r0.2.2.2.1 r0.2.2.2.2) true := by
  have hcj := inv_run hM hn hc0 j (fun u hu => hin u (by omega))
  have hIj := hin j (Nat.le_refl j)
  rw [hj] at hcj hIj
  obtain ⟨b1, b2, b3, b4, b5, b6⟩ := hcj
  obtain ⟨i1, i2, i3⟩ := hIj
  simp only at b1 b2 b3 b4 b5 b6 i1 i2 i3
  have hmem : ∀ x ∈ (cs.take (f + m)).drop f, 0 ≤ x ∧ x < Sy := fun x hx => b6 x (List.mem_append_left _ (List.mem_of_mem_take (List.mem_of_mem_drop hx)))
  have hpl : ((cs.take (f + m)).drop f).length = m := by rw [List.length_drop, List.length_take]; omega
  have hg : goodArgs St Sy s (p - f) ((cs.take (f + m)).drop f) := ⟨by omega, b2, by omega, by omega, by omega, by omega, hmem⟩
  obtain ⟨r, hr, hS⟩ := (Cross_ev hM s (p - f) ((cs.take (f + m)).drop f) (by omega)).1 hg
  rw [hpl] at hS
  obtain ⟨z0, z1, z2, z3, z4⟩ := r
  replace hr : Ev (fun k => block_Cross.f k St Sy rules s (p - f) ((cs.take (f + m)).drop f)) (z0, z1, z2, z3, z4, 0) := hr
  have hu0 := up_start (x := cs) (f := f) (m := m) (by omega) s p
  have hp6 : (pad ((cs.take (f + m)).drop f)).length = 6 := by unfold pad; rw [List.length_append, List.length_replicate]; omega
  have hup : ∀ t, (∀ u, u < t → Inside m (runC rules u (s, p - f, pad ((cs.take (f + m)).drop f)))) → runC rules (j + t) c0 = up cs f m (runC rules t (s, p - f, pad ((cs.take (f + m)).drop f))) := by
    intro t ht
    rw [runC_add, hj, ← hu0, up_run (by omega) (by rw [hp6]; omega) t ht]
  rw [Ev_succ]
  simp only [standstilllaw05_BlockParts.j3, Ev_ite, Ev_none]
  rw [if_pos (by omega), if_pos (by omega), if_pos (by omega)]
  have e1 : ((f + m : Nat) : Int).toNat = f + m := by omega
  have e2 : ((f : Nat) : Int).toNat = f := by omega
  rw [e1, e2, wrap_id (x := p - f) (by omega) (by omega), Ev_bind hr]
  simp only [if_true, Ev_ite, Ev_none]
  rcases hS with ⟨T, hT, h1, h2, he⟩ | ⟨h1, _, he⟩
  · have hin2 : ∀ u, u < j + T → Inside w.length (runC rules u c0) := by
      intro u hu
      by_cases e : u ≤ j
      · exact hin u e
      · have e3 : u = j + (u - j) := by omega
        rw [e3, hup (u - j) (fun v hv => h1 v (by omega))]
        exact up_in hfm (h1 (u - j) (by omega))
    have hT1 : 1 ≤ T := by
      rcases Nat.eq_zero_or_pos T with e | e
      · subst e
        exact absurd (show Inside m (s, p - (f : Int), pad ((cs.take (f + m)).drop f)) from ⟨i1, by show 0 ≤ p - (f : Int); omega, by show p - (f : Int) < (m : Int); omega⟩) h2
      · exact e
    have hcT := hup T h1
    have hvl : (runC rules T (s, p - f, pad ((cs.take (f + m)).drop f))).2.2.length = 6 := by rw [runC_len]; exact hp6
    have hr0 : ¬ Inside w.length (runC rules (j + T) c0) → r0 = exitRes w.length (j + T) (runC rules (j + T) c0) := by
      intro hx
      rcases hS0 with ⟨T0, g0, g1, g2, rfl⟩ | ⟨g1, _, rfl⟩
      · rcases Nat.lt_trichotomy T0 (j + T) with e | e | e
        · exact absurd (hin2 T0 e) g2
        · rw [e]
        · exact absurd (g1 _ e) hx
      · exact absurd (g1 _) hx
    have hmore : Inside w.length (runC rules (j + T) c0) → r0.1 = 3 ∨ ((j + T : Nat) : Int) ≤ r0.2.2.1 := by
      intro hx
      rcases hS0 with ⟨T0, g0, g1, g2, rfl⟩ | ⟨g1, _, rfl⟩
      · rcases Nat.lt_or_ge T0 (j + T) with e | e
        · exact absurd (hin2 T0 e) g2
        · right
          show ((j + T : Nat) : Int) ≤ (T0 : Int)
          omega
      · left; rfl
    rw [hcT] at hr0 hmore
    have hnext := hnext (j + T)
    rw [hcT] at hnext
    generalize runC rules T (s, p - f, pad ((cs.take (f + m)).drop f)) = cT at h2 hvl hr0 hmore hcT hnext he
    obtain ⟨s', q, v⟩ := cT
    simp only [up] at h2 hvl hr0 hmore hcT hnext
    simp only [exitRes, Prod.mk.injEq] at he
    obtain ⟨hex, he1, he2, he3, he4⟩ := he
    subst z1; subst z2; subst z3; subst z4
    have hwl : (v.take m).length = m := by rw [List.length_take]; omega
    have hgl : glue cs f (v.take m).length (v.take m) = glue cs f m v := by
      unfold glue
      rw [hwl, List.take_take, Nat.min_self]
    have hgn : (glue cs f m v).length = cs.length := glue_len (by omega) (by omega)
    have hinvT := inv_run hM hn hc0 (j + T) hin2
    rw [hcT] at hinvT
    obtain ⟨t1, t2, t3, t4, t5, t6⟩ := hinvT
    simp only at t1 t2 t3 t4
    have hk3 : ¬ z0 = 3 := by
      rw [hex]
      split
      · decide
      · split <;> decide
    have hfin : ∀ R : Bool, Ev (fun k => standstilllaw05_BlockParts.l1 k w kk cs (j : Int) (nn : Int) (f : Int) 0 St Sy rules r0.1 r0.2.1 r0.2.2.1 r0.2.2.2.1 r0.2.2.2.2 z0 s' (T : Int) q (v.take m)) R → R = true →
        Ev (fun k => standstilllaw05_BlockParts.j4 k w kk cs (j : Int) (nn : Int) (f : Int) (decide ((T : Int) < 1)) St Sy rules r0.1 r0.2.1 r0.2.2.1 r0.2.2.2.1 r0.2.2.2.2 z0 s' (T : Int) q (v.take m)) true := by
      intro R hR he
      subst he
      rw [decide_eq_false (by omega), Ev_succ]
      simp only [standstilllaw05_BlockParts.j4, Ev_ite, Bool.false_eq_true, if_false]
      exact hR
    rw [if_neg hk3]
    have e5 : wrap64 (((f + m : Nat) : Int) - (f : Int)) = (m : Int) := by rw [wrap_id (by omega) (by omega)]; omega
    rw [hwl, e5, if_pos rfl]
    refine hfin true ?_ rfl
    have hst : cs = cs.take f ++ (v.take m).take 0 ++ cs.drop (f + 0) := by rw [List.take_zero, List.append_nil, Nat.add_zero, List.take_append_drop]
    have key := copy_loop (St := St) (Sy := Sy) (rules := rules) w kk cs f (v.take m) (by omega) (by omega) (j : Int) (nn : Int) r0.1 r0.2.1 r0.2.2.1 r0.2.2.2.1 r0.2.2.2.2 z0 s' (T : Int) q true
    rw [hgl] at key
    have e10 : wrap64 ((j : Int) + (T : Int)) = ((j + T : Nat) : Int) := by rw [wrap_id (by omega) (by omega)]; omega
    have e11 : wrap64 ((f : Int) + q) = q + (f : Int) := by rw [wrap_id (by omega) (by omega)]; omega
    rw [e10, e11] at key
    have key2 := fun h => key h m 0 (by omega)
    rw [← hst] at key2
    refine key2 ?_
    clear key key2 hfin
    have hend : ∀ K, ¬ Inside w.length (s', q + (f : Int), pad (glue cs f m v)) → K = (if s' = -1 then (2 : Int) else if q + (f : Int) < 0 then 0 else 1) →
        Ev (fun k => standstilllaw05_BlockParts.j6 k s' (q + (f : Int)) w kk (glue cs f m v) ((j + T : Nat) : Int) (nn : Int) true St Sy rules r0.1 r0.2.1 r0.2.2.1 r0.2.2.2.1 r0.2.2.2.2 K s' (T : Int) q (v.take m)) true := by
      intro K hx hK
      rw [hr0 hx]
      have hw6 : (pad (glue cs f m v)).take w.length = glue cs f m v := by
        unfold pad
        rw [List.take_append_of_le_length (by omega), List.take_of_length_le (by omega)]
      simp only [exitRes, hw6, ← hK]
      exact part_end w kk nn K s' _ _ _ _ _ _ (by omega)
    simp only [Ev_ite]
    by_cases k1 : s' = -1
    · have hz : z0 = 2 := by rw [hex, if_pos k1]
      rw [hz, if_pos rfl]
      exact hend 2 (fun h => h.1 k1) (by rw [if_pos k1])
    · have hz : ¬ z0 = 2 := by
        rw [hex, if_neg k1]
        split <;> decide
      rw [if_neg hz]
      by_cases k2 : q + (f : Int) < 0
      · rw [if_pos k2]
        refine hend _ (fun h => ?_) (by rw [hex, if_neg k1, if_neg k1, if_pos k2, if_pos (by omega)])
        have := h.2.1
        simp only at this
        omega
      · rw [if_neg k2]
        by_cases k3 : q + (f : Int) ≥ (w.length : Int)
        · rw [decide_eq_true k3]
          refine hend _ (fun h => ?_) (by rw [hex, if_neg k1, if_neg k1, if_neg k2, if_neg (by omega)])
          have := h.2.2
          simp only at this
          omega
        · have hI : Inside w.length (s', q + (f : Int), pad (glue cs f m v)) := ⟨k1, by simp only; omega, by simp only; omega⟩
          have hnx := hnext s' (q + f) (glue cs f m v) (by omega) (by omega) rfl (by omega) (fun u hu => by
            by_cases e : u = j + T
            · rw [e, hcT]; exact hI
            · exact hin2 u (Nat.lt_of_le_of_ne hu e))
          rw [decide_eq_false k3, Ev_succ]
          simp only [standstilllaw05_BlockParts.j6, Ev_ite, Ev_none, Bool.false_eq_true, if_false]
          rw [wrapn nn (by omega)]
          by_cases k4 : r0.1 = 3
          · rw [if_pos k4]; exact hnx
          · rw [if_neg k4]
            rcases hmore hI with e | e
            · exact absurd e k4
            · rw [if_neg (Int.not_lt.2 e)]; exact hnx
  · have h30 : r0.1 = 3 := by
      rcases hS0 with ⟨T0, g0, g1, g2, rfl⟩ | ⟨g1, _, rfl⟩
      · exfalso
        apply g2
        by_cases e : T0 ≤ j
        · exact hin T0 e
        · have e3 : T0 = j + (T0 - j) := by omega
          rw [e3, hup (T0 - j) (fun v _ => h1 v)]
          exact up_in hfm (h1 (T0 - j))
      · rfl
    simp only [Prod.mk.injEq] at he
    rw [if_pos he.1, if_pos h30]
    exact awake_b

theorem u8_bounds {x : Int} (h : (Lit.int .u8 x).wf = true) : 0 ≤ x ∧ x ≤ 255 := by
  simp only [Lit.wf, IntKind.min, IntKind.max, IntKind.signed, IntKind.bits, Bool.and_eq_true, decide_eq_true_eq] at h
  simp at h
  omega
theorem word_ev2 (St Sy : Int) (rules : List (List S57)) (w : List Int) (hw : w.length ≤ 100000000000000) : ∃ b, Ev (fun k => standstillref05_Word.f k St Sy rules w) b ∧ (b = true → (∀ x ∈ w, 0 ≤ x ∧ x < Sy) ∧ 1 ≤ w.length ∧ w.length ≤ 6) := by
  have H : ∀ (d i : Nat), i + d = w.length → Ev (fun k => standstillref05_Word.l0 k w (i : Int) St Sy rules) (symB Sy (w.drop i) && decide (1 ≤ w.length ∧ w.length ≤ 6)) := by
    intro d
    induction d with
    | zero =>
      intro i hi
      have e : w.drop i = [] := List.drop_eq_nil_of_le (by omega)
      rw [Ev_succ]
      simp only [standstillref05_Word.l0, Ev_ite, Ev_none]
      rw [if_neg (by omega), e]
      have hs : symB Sy [] = true := rfl
      rw [hs, Bool.true_and]
      by_cases k : (w.length : Int) ≥ 1
      · rw [if_pos k]
        have : decide ((w.length : Int) ≤ 6) = decide (1 ≤ w.length ∧ w.length ≤ 6) := by
          rw [decide_eq_decide]
          omega
        rw [← this]
        exact Ev.now _
      · rw [if_neg k, decide_eq_false (by omega)]
        exact Ev.now _
    | succ d ih =>
      intro i hi
      have hlt : i < w.length := by omega
      have ih := ih (i + 1) (by omega)
      rw [drop_cons w i hlt]
      have hs : symB Sy (w[i] :: w.drop (i + 1)) = (decide (0 ≤ w[i] ∧ w[i] < Sy) && symB Sy (w.drop (i + 1))) := rfl
      rw [hs, Ev_succ]
      simp only [standstillref05_Word.l0, Ev_ite, Ev_none]
      rw [if_pos (by omega), if_pos (by omega), rd_nat w i hlt, wrapn i (by omega)]
      by_cases k1 : w[i] < 0
      · rw [if_pos k1, decide_eq_false (by omega)]; exact Ev.now _
      rw [if_neg k1]
      by_cases k2 : w[i] ≥ Sy
      · rw [if_pos k2, decide_eq_false (by omega)]; exact Ev.now _
      rw [if_neg k2, decide_eq_true (show 0 ≤ w[i] ∧ w[i] < Sy by omega), Bool.true_and]
      exact ih
  refine ⟨symB Sy w && decide (1 ≤ w.length ∧ w.length ≤ 6), ?_, fun h => ?_⟩
  · unfold standstillref05_Word.f
    exact H w.length 0 (by omega)
  · rw [Bool.and_eq_true, decide_eq_true_eq] at h
    exact ⟨symB_iff.1 h.1, h.2⟩

theorem parts_loop {St Sy : Int} {rules : List (List S57)} (hM : okM St Sy rules = true) (w : List Int) (hn : w.length ≤ 6) (c0 : Cf) (hc0 : InvC St Sy w.length c0) (r0 : Int × Int × Int × Int × List Int) (hS0 : Sem rules w.length c0 r0) (kk : Nat) (hk1 : 1 ≤ kk) (hk2 : kk < w.length) :
    ∀ (d j nn : Nat) (s p : Int) (cs : List Int), runC rules j c0 = (s, p, pad cs) → cs.length = w.length → (∀ u, u ≤ j → Inside w.length (runC rules u c0)) → j ≤ 200000 * nn → nn + d ≤ 1000000 → (r0.1 = 3 → 3001 ≤ nn + d) → (r0.1 ≠ 3 → 200000 < j + d) →
    Ev (fun k => standstilllaw05_BlockParts.l0 k s p w (kk : Int) cs (j : Int) (nn : Int) St Sy rules r0.1 r0.2.1 r0.2.2.1 r0.2.2.2.1 r0.2.2.2.2) true := by
  intro d
  induction d with
  | zero =>
    intro j nn s p cs hj hcs hin hjb hnb h3 hx
    by_cases h : r0.1 = 3
    · have := h3 h
      rw [Ev_succ]
      simp only [standstilllaw05_BlockParts.l0, Ev_ite, Ev_none]
      have hb : (r0.1 != 3) = false := by rw [h]; rfl
      rw [if_neg (by omega), hb, Ev_succ]
      simp only [standstilllaw05_BlockParts.j2, Ev_ite, Bool.false_eq_true, if_false]
      exact awake_b
    · exfalso
      have hx := hx h
      rcases hS0 with ⟨T0, g0, g1, g2, rfl⟩ | ⟨g1, _, rfl⟩
      · exact g2 (hin T0 (by omega))
      · exact h rfl
  | succ d ih =>
    intro j nn s p cs hj hcs hin hjb hnb h3 hx
    have hIj := hin j (Nat.le_refl j)
    rw [hj] at hIj
    obtain ⟨i1, i2, i3⟩ := hIj
    simp only at i2 i3
    have hnext : ∀ (j' : Nat) (s' p' : Int) (cs' : List Int), j < j' → j' ≤ j + 200000 → runC rules j' c0 = (s', p', pad cs') → cs'.length = w.length → (∀ u, u ≤ j' → Inside w.length (runC rules u c0)) →
      Ev (fun k => standstilllaw05_BlockParts.l0 k s' p' w kk cs' (j' : Int) ((nn + 1 : Nat) : Int) St Sy rules r0.1 r0.2.1 r0.2.2.1 r0.2.2.2.1 r0.2.2.2.2) true :=
      fun j' s' p' cs' a1 a2 a3 a4 a5 => ih j' (nn + 1) s' p' cs' a3 a4 a5 (by omega) (by omega) (fun h => by have := h3 h; omega) (fun h => by have := hx h; omega)
    have hround := fun f m => part_round hM w hn c0 hc0 r0 hS0 (kk : Int) j nn s p cs hj hcs hin (by omega) (by omega) f m
    have hj2 : Ev (fun k => standstilllaw05_BlockParts.j2 k s p w kk cs (j : Int) (nn : Int) true St Sy rules r0.1 r0.2.1 r0.2.2.1 r0.2.2.2.1 r0.2.2.2.2) true := by
      rw [Ev_succ]
      simp only [standstilllaw05_BlockParts.j2, Ev_ite, if_true]
      by_cases k1 : p ≥ (kk : Int)
      · rw [if_pos k1]
        have := hround kk (w.length - kk) (by omega) (by omega) (by omega) (by omega) hnext
        have e : kk + (w.length - kk) = w.length := by omega
        rw [e] at this
        exact this
      · rw [if_neg k1]
        have := hround 0 kk (by omega) (by omega) (by omega) (by omega) hnext
        rw [Nat.zero_add] at this
        exact this
    rw [Ev_succ]
    simp only [standstilllaw05_BlockParts.l0, Ev_ite, Ev_none]
    by_cases k2 : (nn : Int) ≤ 3000
    · rw [if_pos k2]; exact hj2
    · rw [if_neg k2]
      by_cases h : r0.1 = 3
      · have hb : (r0.1 != 3) = false := by rw [h]; rfl
        rw [hb, Ev_succ]
        simp only [standstilllaw05_BlockParts.j2, Ev_ite, Bool.false_eq_true, if_false]
        exact awake_b
      · have hb : (r0.1 != 3) = true := by rw [bne_iff_ne]; exact h
        rw [hb]; exact hj2
theorem BlockParts : standstilllaw05_BlockParts.Pure := by
  intro St Sy rules st po w at_ _ _ hrl _ _ hw hat
  apply Ev.rounds
  obtain ⟨hl, hr⟩ := hrl
  have hl' : rules.length ≤ 10000000000000 := by omega
  have hr' : ∀ x ∈ rules, x.length ≤ 10000000000000 := fun x hx => by have := (hr x hx).1; omega
  have hwl : w.length ≤ 100000000000000 := by have := hw.1; omega
  clear hl hr
  obtain ⟨wd, hwd⟩ := wide_tot rules St Sy hl' hr' rules.length 0 (rules.length : Int) (by omega) (by omega) (by omega)
  unfold standstilllaw05_BlockParts.f
  have hwide : Ev (fun k => standstilllaw05_wide.f k St Sy rules) wd := by
    unfold standstilllaw05_wide.f
    exact hwd
  rw [Ev_bind hwide]
  have hj : Ev (fun k => standstilllaw05_BlockParts.j0 k st po w at_ true St Sy rules) true := by
    rw [Ev_succ]
    simp only [standstilllaw05_BlockParts.j0, Ev_ite]
    rw [if_pos trivial]
    exact awake_b
  cases wd with
  | true => simp only [if_true]; exact hj
  | false =>
    simp only [Bool.false_eq_true, if_false]
    have hv := rv_f St Sy rules (by omega) (fun x hx => by have := hr' x hx; omega)
    rw [Ev_bind hv]
    cases hM : okM St Sy rules with
    | false => simp only [Bool.false_eq_true, if_false]; exact hj
    | true =>
      simp only [if_true, Ev_ite]
      split
      · exact hj
      split
      · exact hj
      rename_i c1 c2
      obtain ⟨bw, hbw, hbw2⟩ := word_ev2 St Sy rules w hwl
      rw [Ev_bind hbw]
      cases bw with
      | false => simp only [Bool.false_eq_true, if_false]; exact hj
      | true =>
        obtain ⟨g7, g3, g4⟩ := hbw2 rfl
        simp only [if_true, Ev_ite]
        split
        · exact hj
        split
        · exact hj
        rename_i c3 c4
        by_cases k : po ≥ (w.length : Int)
        · rw [decide_eq_true k]; exact hj
        rw [decide_eq_false k, Ev_succ]
        have hg : goodArgs St Sy st po w := ⟨by omega, by omega, g3, g4, by omega, by omega, g7⟩
        obtain ⟨r, hr1, hS⟩ := (Cross_ev hM st po w (by omega)).1 hg
        obtain ⟨a1, a2, a3, a4, a5, a6⟩ := okM_len hM
        have hInv : InvC St Sy w.length (st, po, pad w) := pad_inv hg.1 hg.2.1 (by omega) (by omega) g4 g7 a3
        have hr2 : Ev (fun k => block_Cross.f k St Sy rules st po w) (r.1, r.2.1, r.2.2.1, r.2.2.2.1, r.2.2.2.2, 0) := hr1
        obtain ⟨u0, u1⟩ := u8_bounds hat
        have e1 : wrap64 ((w.length : Int) - 1) = (w.length : Int) - 1 := wrap_id (by omega) (by omega)
        have e2 : wrap64 at_ = at_ := wrap_id (by omega) (by omega)
        have e3 : Int.tmod at_ ((w.length : Int) - 1) = at_ % ((w.length : Int) - 1) := Int.tmod_eq_emod_of_nonneg u0
        have m0 := Int.emod_nonneg at_ (show ((w.length : Int) - 1) ≠ 0 by omega)
        have m1 := Int.emod_lt_of_pos at_ (show 0 < ((w.length : Int) - 1) by omega)
        have e4 : wrap64 (1 + at_ % ((w.length : Int) - 1)) = 1 + at_ % ((w.length : Int) - 1) := wrap_id (by omega) (by omega)
        simp only [standstilllaw05_BlockParts.j0, Ev_ite, Ev_none, Bool.false_eq_true, if_false]
        rw [e1, if_neg (by omega), Ev_bind hr2]
        simp only [if_true, Option.bind_some, List.length_nil, Nat.zero_add, List.nil_append, Ev_ite, Ev_none]
        rw [if_pos (by omega), e2, e3, e4]
        obtain ⟨kk, hkk⟩ := Int.eq_ofNat_of_zero_le (show 0 ≤ 1 + at_ % ((w.length : Int) - 1) by omega)
        rw [hkk]
        exact parts_loop hM w g4 (st, po, pad w) hInv r hS kk (by omega) (by omega) 300000 0 0 st po w rfl rfl (fun u hu => by
          have : u = 0 := by omega
          subst this
          exact ⟨by show st ≠ -1; omega, by show 0 ≤ po; omega, by show po < (w.length : Int); omega⟩) (by omega) (by omega) (fun _ => by omega) (fun _ => by omega)

end Go.Proofs.Ytcdejoaekkcknaa.Pure
