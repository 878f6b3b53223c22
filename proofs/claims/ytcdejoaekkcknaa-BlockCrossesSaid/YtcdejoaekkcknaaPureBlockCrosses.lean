/- The plain law of BlockCrosses: Cross returns the documented exit, or the documented error, for every machine, state, cell and block. No condition beyond what every argument has (numbers of their kind, lists within memory). -/
import Derived.Test.YtcdejoaekkcknaaAid
import Derived.Test.YtcdejoaekkcknaaPBlockCrossesx9
namespace Go.Proofs.Ytcdejoaekkcknaa.Pure
open Go.RowKit Go.Proofs.Ytcdejoaekkcknaa.PBlockCrosses Go.Proofs.YtcdejoaekkcknaaW.PrintWords Go.Proofs.YtcdejoaekkcknaaW.PrintLast Go.Proofs.YtcdejoaekkcknaaW.PrintMore Go.Proofs.YtcdejoaekkcknaaAid
set_option linter.unusedVariables false
set_option linter.unusedSimpArgs false

theorem wrapn (i : Nat) (h : i ≤ 1000000000000000000) : wrap64 ((i : Int) + 1) = ((i + 1 : Nat) : Int) := by
  rw [wrap_id (by omega) (by omega)]; omega
theorem rdT (l : List S57) (i : Nat) (h : i < l.length) : rd_T57 l (i : Int) = l[i] := by
  simp [rd_T57, List.getD, h]
theorem rdL (l : List (List S57)) (i : Nat) (h : i < l.length) : rd_L2 l (i : Int) = l[i] := by
  simp [rd_L2, List.getD, h]
def okR (St Sy : Int) (r : S57) : Prop := 0 ≤ r.f0 ∧ r.f0 < Sy ∧ (r.f1 = -1 ∨ r.f1 = 1) ∧ -1 ≤ r.f2 ∧ r.f2 < St
instance decOkR (St Sy : Int) (r : S57) : Decidable (okR St Sy r) := by unfold okR; infer_instance
def okRb (St Sy : Int) (r : S57) : Bool := decide (okR St Sy r)
def okRow (St Sy : Int) (l : List S57) : Bool := decide ((l.length : Int) = Sy) && l.all (okRb St Sy)
def okM (St Sy : Int) (l : List (List S57)) : Bool := decide (1 ≤ St ∧ St ≤ 6 ∧ 2 ≤ Sy ∧ Sy ≤ 4 ∧ (l.length : Int) = St) && l.all (okRow St Sy)

theorem tv_row (St Sy : Int) (rules : List (List S57)) (row : List S57) (j : Nat) (B : Bool) (hr : row.length ≤ 100000000000000) (hB : Ev (fun k => tape_Valid.l0 k rules (rules.length : Int) (wrap64 ((j : Int) + 1)) St Sy rules) B) : ∀ (d i : Nat), i + d = row.length →
    Ev (fun k => tape_Valid.l1 k rules (rules.length : Int) (j : Int) row (row.length : Int) (i : Int) St Sy rules) ((row.drop i).all (okRb St Sy) && B) := by
  intro d
  induction d with
  | zero =>
    intro i hi
    rw [Ev_succ]
    simp only [tape_Valid.l1, Ev_ite, Ev_some, Ev_none]
    rw [if_neg (by omega), List.drop_eq_nil_of_le (by omega)]
    simpa using hB
  | succ d ih =>
    intro i hi
    have hlt : i < row.length := by omega
    have ih := ih (i + 1) (by omega)
    rw [drop_cons row i hlt, List.all_cons, Ev_succ]
    simp only [tape_Valid.l1, Ev_ite, Ev_some, Ev_none]
    rw [if_pos (by omega), if_pos (by omega), if_pos (by omega), rdT row i hlt, wrapn i (by omega)]
    generalize row[i] = x
    obtain ⟨f0, f1, f2⟩ := x
    simp only
    by_cases hok : okR St Sy ⟨f0, f1, f2⟩
    · rw [okRb, decide_eq_true hok, Bool.true_and]
      obtain ⟨h0, h1, h2, h3, h4⟩ := hok
      simp only at h0 h1 h2 h3 h4
      rw [if_neg (by omega), if_neg (by omega)]
      rcases h2 with h2 | h2
      · rw [if_pos h2, if_neg (by omega), if_neg (by omega)]
        exact ih
      · rw [if_neg (by omega), if_pos h2, if_neg (by omega), if_neg (by omega)]
        exact ih
    · rw [okRb, decide_eq_false hok, Bool.false_and, Bool.false_and]
      simp only [okR] at hok
      by_cases c0 : f0 < 0
      · rw [if_pos c0]
      rw [if_neg c0]
      by_cases c1 : f0 ≥ Sy
      · rw [if_pos c1]
      rw [if_neg c1]
      by_cases c2 : f1 = -1
      · rw [if_pos c2]
        by_cases c3 : f2 < -1
        · rw [if_pos c3]
        rw [if_neg c3]
        by_cases c4 : f2 ≥ St
        · rw [if_pos c4]
        · exact absurd ⟨by omega, by omega, .inl c2, by omega, by omega⟩ hok
      rw [if_neg c2]
      by_cases c5 : f1 = 1
      · rw [if_pos c5]
        by_cases c3 : f2 < -1
        · rw [if_pos c3]
        rw [if_neg c3]
        by_cases c4 : f2 ≥ St
        · rw [if_pos c4]
        · exact absurd ⟨by omega, by omega, .inr c5, by omega, by omega⟩ hok
      · rw [if_neg c5]
theorem tv_rows (St Sy : Int) (rules : List (List S57)) (hl : rules.length ≤ 100000000000000) (hr : ∀ r ∈ rules, r.length ≤ 100000000000000) : ∀ (d j : Nat), j + d = rules.length →
    Ev (fun k => tape_Valid.l0 k rules (rules.length : Int) (j : Int) St Sy rules) ((rules.drop j).all (okRow St Sy)) := by
  intro d
  induction d with
  | zero =>
    intro j hj
    rw [Ev_succ]
    simp only [tape_Valid.l0, Ev_ite, Ev_some, Ev_none]
    rw [if_neg (by omega), List.drop_eq_nil_of_le (by omega)]
    rfl
  | succ d ih =>
    intro j hj
    have hlt : j < rules.length := by omega
    have ih := ih (j + 1) (by omega)
    rw [drop_cons rules j hlt, List.all_cons, Ev_succ]
    simp only [tape_Valid.l0, Ev_ite, Ev_some, Ev_none]
    rw [if_pos (by omega), if_pos (by omega), if_pos (by omega), rdL rules j hlt]
    by_cases c : ((rules[j].length : Nat) : Int) = Sy
    · rw [if_pos c, okRow, decide_eq_true c, Bool.true_and]
      have := tv_row St Sy rules rules[j] j _ (hr _ (List.getElem_mem hlt)) (by rw [wrapn j (by omega)]; exact ih) rules[j].length 0 (by omega)
      simpa using this
    · rw [if_neg c, okRow, decide_eq_false c]
      rfl
theorem tv_f (St Sy : Int) (rules : List (List S57)) (hl : rules.length ≤ 100000000000000) (hr : ∀ r ∈ rules, r.length ≤ 100000000000000) : Ev (fun k => tape_Valid.f k St Sy rules) (okM St Sy rules) := by
  have hj : ∀ b, Ev (fun k => tape_Valid.j0 k b St Sy rules) (!b && rules.all (okRow St Sy)) := by
    intro b
    rw [Ev_succ]
    simp only [tape_Valid.j0, Ev_ite, Ev_some]
    cases b with
    | true => simp
    | false =>
      have := tv_rows St Sy rules hl hr rules.length 0 (by omega)
      simpa using this
  unfold tape_Valid.f okM
  simp only [Ev_ite]
  by_cases c : 1 ≤ St ∧ St ≤ 6 ∧ 2 ≤ Sy ∧ Sy ≤ 4
  · rw [if_neg (by omega), if_neg (by omega), if_neg (by omega), if_neg (by omega)]
    have := hj ((rules.length : Int) != St)
    by_cases e : (rules.length : Int) = St
    · rw [decide_eq_true ⟨c.1, c.2.1, c.2.2.1, c.2.2.2, e⟩]
      simpa [e] using this
    · rw [decide_eq_false (fun h => e h.2.2.2.2), Bool.false_and]
      have hb : ((rules.length : Int) != St) = true := by simp [e]
      rw [hb] at this ⊢
      simpa using this
  · have h := hj true
    rw [decide_eq_false (fun h => c ⟨h.1, h.2.1, h.2.2.1, h.2.2.2.1⟩), Bool.false_and]
    simp only [Bool.not_true, Bool.false_and] at h
    by_cases c0 : St < 1
    · rw [if_pos c0]; exact h
    rw [if_neg c0]
    by_cases c1 : St > 6
    · rw [if_pos c1]; exact h
    rw [if_neg c1]
    by_cases c2 : Sy < 2
    · rw [if_pos c2]; exact h
    rw [if_neg c2]
    by_cases c3 : Sy > 4
    · rw [if_pos c3]; exact h
    · exact absurd ⟨by omega, by omega, by omega, by omega⟩ c

theorem rv_row (St Sy : Int) (rules : List (List S57)) (j : Nat) (hj : j < rules.length) (B : Bool) (hS : ((rules[j].length : Nat) : Int) = Sy) (hr : rules[j].length ≤ 100000000000000) (hB : Ev (fun k => standstillref01_Valid.l0 k (wrap64 ((j : Int) + 1)) St Sy rules) B) : ∀ (d i : Nat), i + d = rules[j].length →
    Ev (fun k => standstillref01_Valid.l1 k (j : Int) (i : Int) St Sy rules) ((rules[j].drop i).all (okRb St Sy) && B) := by
  intro d
  induction d with
  | zero =>
    intro i hi
    rw [Ev_succ]
    simp only [standstillref01_Valid.l1, Ev_ite, Ev_some, Ev_none]
    rw [if_neg (by omega), List.drop_eq_nil_of_le (by omega)]
    simpa using hB
  | succ d ih =>
    intro i hi
    have hlt : i < rules[j].length := by omega
    have ih := ih (i + 1) (by omega)
    rw [drop_cons rules[j] i hlt, List.all_cons, Ev_succ]
    simp only [standstillref01_Valid.l1, Ev_ite, Ev_some, Ev_none]
    rw [if_pos (by omega), if_pos (by omega), if_pos (by omega), if_pos (by omega), rdL rules j hj, if_pos (by omega), rdT rules[j] i hlt, wrapn i (by omega)]
    generalize rules[j][i] = x
    obtain ⟨f0, f1, f2⟩ := x
    simp only
    by_cases hok : okR St Sy ⟨f0, f1, f2⟩
    · rw [okRb, decide_eq_true hok, Bool.true_and]
      obtain ⟨h0, h1, h2, h3, h4⟩ := hok
      simp only at h0 h1 h2 h3 h4
      rw [if_neg (by omega), if_neg (by omega)]
      rcases h2 with h2 | h2
      · rw [if_pos h2, if_neg (by omega), if_neg (by omega)]
        exact ih
      · rw [if_neg (by omega), if_pos h2, if_neg (by omega), if_neg (by omega)]
        exact ih
    · rw [okRb, decide_eq_false hok, Bool.false_and, Bool.false_and]
      simp only [okR] at hok
      by_cases c0 : f0 < 0
      · rw [if_pos c0]
      rw [if_neg c0]
      by_cases c1 : f0 ≥ Sy
      · rw [if_pos c1]
      rw [if_neg c1]
      by_cases c2 : f1 = -1
      · rw [if_pos c2]
        by_cases c3 : f2 < -1
        · rw [if_pos c3]
        rw [if_neg c3]
        by_cases c4 : f2 ≥ St
        · rw [if_pos c4]
        · exact absurd ⟨by omega, by omega, .inl c2, by omega, by omega⟩ hok
      rw [if_neg c2]
      by_cases c5 : f1 = 1
      · rw [if_pos c5]
        by_cases c3 : f2 < -1
        · rw [if_pos c3]
        rw [if_neg c3]
        by_cases c4 : f2 ≥ St
        · rw [if_pos c4]
        · exact absurd ⟨by omega, by omega, .inr c5, by omega, by omega⟩ hok
      · rw [if_neg c5]
theorem rv_rows (St Sy : Int) (rules : List (List S57)) (hSt : (rules.length : Int) = St) (hl : rules.length ≤ 100000000000000) (hr : ∀ r ∈ rules, r.length ≤ 100000000000000) : ∀ (d j : Nat), j + d = rules.length →
    Ev (fun k => standstillref01_Valid.l0 k (j : Int) St Sy rules) ((rules.drop j).all (okRow St Sy)) := by
  intro d
  induction d with
  | zero =>
    intro j hj
    rw [Ev_succ]
    simp only [standstillref01_Valid.l0, Ev_ite, Ev_some, Ev_none]
    rw [if_neg (by omega), List.drop_eq_nil_of_le (by omega)]
    rfl
  | succ d ih =>
    intro j hj
    have hlt : j < rules.length := by omega
    have ih := ih (j + 1) (by omega)
    rw [drop_cons rules j hlt, List.all_cons, Ev_succ]
    simp only [standstillref01_Valid.l0, Ev_ite, Ev_some, Ev_none]
    rw [if_pos (by omega), if_pos (by omega), if_pos (by omega), rdL rules j hlt]
    by_cases c : ((rules[j].length : Nat) : Int) = Sy
    · rw [if_pos c, okRow, decide_eq_true c, Bool.true_and]
      have := rv_row St Sy rules j hlt _ c (hr _ (List.getElem_mem hlt)) (by rw [wrapn j (by omega)]; exact ih) rules[j].length 0 (by omega)
      simpa using this
    · rw [if_neg c, okRow, decide_eq_false c]
      rfl
theorem rv_f (St Sy : Int) (rules : List (List S57)) (hl : rules.length ≤ 100000000000000) (hr : ∀ r ∈ rules, r.length ≤ 100000000000000) : Ev (fun k => standstillref01_Valid.f k St Sy rules) (okM St Sy rules) := by
  have hj0 : Ev (fun k => standstillref01_Valid.j0 k true St Sy rules) false := by
    rw [Ev_succ]
    simp [standstillref01_Valid.j0, Ev_ite, Ev_some]
  unfold standstillref01_Valid.f okM
  simp only [Ev_ite]
  by_cases c : 1 ≤ St ∧ St ≤ 6 ∧ 2 ≤ Sy ∧ Sy ≤ 4
  · rw [if_neg (by omega), if_neg (by omega), if_neg (by omega), if_neg (by omega)]
    by_cases e : (rules.length : Int) = St
    · rw [decide_eq_true ⟨c.1, c.2.1, c.2.2.1, c.2.2.2, e⟩, show ((rules.length : Int) != St) = false by simp [e], Ev_succ]
      simp only [standstillref01_Valid.j0, Ev_ite, Ev_some]
      rw [if_neg (by simp)]
      have := rv_rows St Sy rules e hl hr rules.length 0 (by omega)
      simpa using this
    · rw [decide_eq_false (fun h => e h.2.2.2.2), show ((rules.length : Int) != St) = true by simp [e]]
      exact hj0
  · rw [decide_eq_false (fun h => c ⟨h.1, h.2.1, h.2.2.1, h.2.2.2.1⟩), Bool.false_and]
    by_cases c0 : St < 1
    · rw [if_pos c0]; exact hj0
    rw [if_neg c0]
    by_cases c1 : St > 6
    · rw [if_pos c1]; exact hj0
    rw [if_neg c1]
    by_cases c2 : Sy < 2
    · rw [if_pos c2]; exact hj0
    rw [if_neg c2]
    by_cases c3 : Sy > 4
    · rw [if_pos c3]; exact hj0
    · exact absurd ⟨by omega, by omega, by omega, by omega⟩ c

/-- The mirrored machine. -/
theorem okM_len {St Sy : Int} {rules : List (List S57)} (h : okM St Sy rules = true) : 1 ≤ St ∧ St ≤ 6 ∧ 2 ≤ Sy ∧ Sy ≤ 4 ∧ (rules.length : Int) = St ∧ ∀ r ∈ rules, (r.length : Int) = Sy ∧ ∀ x ∈ r, okR St Sy x := by
  unfold okM at h
  simp only [Bool.and_eq_true, decide_eq_true_eq, List.all_eq_true] at h
  refine ⟨h.1.1, h.1.2.1, h.1.2.2.1, h.1.2.2.2.1, h.1.2.2.2.2, fun r hr => ?_⟩
  have := h.2 r hr
  simp only [okRow, okRb, Bool.and_eq_true, decide_eq_true_eq, List.all_eq_true] at this
  exact this

abbrev Cf := Int × Int × List Int
section
variable (rules : List (List S57)) (n : Nat)
def ruleOf (c : Cf) : S57 := rd_T57 (rd_L2 rules c.1) (rd c.2.2 c.2.1)
def stepC (c : Cf) : Cf := ((ruleOf rules c).f2, c.2.1 + (ruleOf rules c).f1, c.2.2.set c.2.1.toNat (ruleOf rules c).f0)
def runC : Nat → Cf → Cf
  | 0, c => c
  | t + 1, c => runC t (stepC rules c)
def Inside (c : Cf) : Prop := c.1 ≠ -1 ∧ 0 ≤ c.2.1 ∧ c.2.1 < (n : Int)
def exitRes (T : Nat) (c : Cf) : Int × Int × Int × Int × List Int := ((if c.1 = -1 then 2 else if c.2.1 < 0 then 0 else 1), c.1, (T : Int), c.2.1, c.2.2.take n)
/-- What a crossing from c answers. -/
def Sem (c : Cf) (r : Int × Int × Int × Int × List Int) : Prop :=
  (∃ T : Nat, T ≤ 200000 ∧ (∀ t, t < T → Inside n (runC rules t c)) ∧ ¬ Inside n (runC rules T c) ∧ r = exitRes n T (runC rules T c)) ∨ ((∀ t, Inside n (runC rules t c)) ∧ (∃ a b, a < b ∧ b ≤ 200000 ∧ runC rules a c = runC rules b c) ∧ r = (3, 0, 0, 0, []))
theorem runC_succ (t : Nat) (c : Cf) : runC rules (t + 1) c = stepC rules (runC rules t c) := by
  induction t generalizing c with
  | zero => rfl
  | succ t ih => rw [runC, ih (stepC rules c)]; rfl
theorem runC_add (a b : Nat) (c : Cf) : runC rules (a + b) c = runC rules b (runC rules a c) := by
  induction b with
  | zero => rfl
  | succ b ih => rw [← Nat.add_assoc, runC_succ, runC_succ, ih]
theorem Sem_uniq {c : Cf} {r r' : Int × Int × Int × Int × List Int} (h : Sem rules n c r) (h' : Sem rules n c r') : r = r' := by
  rcases h with ⟨T, _, h1, h2, rfl⟩ | ⟨h1, _, rfl⟩
  · rcases h' with ⟨T', _, g1, g2, rfl⟩ | ⟨g1, _, rfl⟩
    · rcases Nat.lt_trichotomy T T' with e | e | e
      · exact absurd (g1 T e) h2
      · rw [e]
      · exact absurd (h1 T' e) g2
    · exact absurd (g1 T) h2
  · rcases h' with ⟨T', _, g1, g2, rfl⟩ | ⟨g1, _, rfl⟩
    · exact absurd (h1 T') g2
    · rfl
end
def InvC (St Sy : Int) (n : Nat) (c : Cf) : Prop := -1 ≤ c.1 ∧ c.1 < St ∧ -1 ≤ c.2.1 ∧ c.2.1 ≤ (n : Int) ∧ c.2.2.length = 6 ∧ ∀ x ∈ c.2.2, 0 ≤ x ∧ x < Sy
theorem rd_mem {l : List Int} {i : Int} (h0 : 0 ≤ i) (h1 : i < (l.length : Int)) : rd l i ∈ l := by
  obtain ⟨m, rfl⟩ := Int.eq_ofNat_of_zero_le h0
  rw [rd_nat l m (by omega)]
  exact List.getElem_mem _
theorem rule_ok {St Sy : Int} {rules : List (List S57)} (h : okM St Sy rules = true) (c : Cf) (h0 : 0 ≤ c.1) (h1 : c.1 < St) (h2 : 0 ≤ rd c.2.2 c.2.1) (h3 : rd c.2.2 c.2.1 < Sy) :
    c.1 < (rules.length : Int) ∧ rd c.2.2 c.2.1 < ((rd_L2 rules c.1).length : Int) ∧ okR St Sy (ruleOf rules c) := by
  obtain ⟨a1, a2, a3, a4, a5, a6⟩ := okM_len h
  obtain ⟨st, po, v⟩ := c
  unfold ruleOf
  simp only at *
  obtain ⟨s, rfl⟩ := Int.eq_ofNat_of_zero_le h0
  obtain ⟨y, hy⟩ := Int.eq_ofNat_of_zero_le h2
  rw [hy] at h3 ⊢
  have hs : s < rules.length := by omega
  rw [rdL rules s hs]
  obtain ⟨b1, b2⟩ := a6 _ (List.getElem_mem hs)
  have hyl : y < rules[s].length := by omega
  rw [rdT _ y hyl]
  exact ⟨by omega, by omega, b2 _ (List.getElem_mem hyl)⟩
theorem inv_step {St Sy : Int} {rules : List (List S57)} {n : Nat} (h : okM St Sy rules = true) (hn : n ≤ 6) {c : Cf} (hc : InvC St Sy n c) (hi : Inside n c) : InvC St Sy n (stepC rules c) ∧ okR St Sy (ruleOf rules c) ∧ c.1 < (rules.length : Int) ∧ 0 ≤ rd c.2.2 c.2.1 ∧ rd c.2.2 c.2.1 < ((rd_L2 rules c.1).length : Int) := by
  obtain ⟨c1, c2, c3, c4, c5, c6⟩ := hc
  obtain ⟨i1, i2, i3⟩ := hi
  obtain ⟨m1, m2⟩ := c6 _ (rd_mem (l := c.2.2) i2 (by omega))
  obtain ⟨r1, r2, r3⟩ := rule_ok h c (by omega) c2 m1 m2
  obtain ⟨o1, o2, o3, o4, o5⟩ := r3
  refine ⟨⟨o4, o5, ?_, ?_, ?_, ?_⟩, ⟨o1, o2, o3, o4, o5⟩, r1, m1, r2⟩
  · show -1 ≤ c.2.1 + (ruleOf rules c).f1
    omega
  · show c.2.1 + (ruleOf rules c).f1 ≤ (n : Int)
    omega
  · show (c.2.2.set _ _).length = 6
    rw [List.length_set]
    exact c5
  · intro x hx
    rcases List.mem_or_eq_of_mem_set hx with h1 | h1
    · exact c6 x h1
    · rw [h1]; exact ⟨o1, o2⟩
theorem inv_run {St Sy : Int} {rules : List (List S57)} {n : Nat} (h : okM St Sy rules = true) (hn : n ≤ 6) {c : Cf} (hc : InvC St Sy n c) : ∀ t, (∀ u, u < t → Inside n (runC rules u c)) → InvC St Sy n (runC rules t c) := by
  intro t
  induction t with
  | zero => intro _; exact hc
  | succ t ih =>
    intro hu
    rw [runC_succ]
    exact (inv_step h hn (ih (fun u hu' => hu u (by omega))) (hu t (by omega))).1
/-! All moments, counted. -/
def words (Sy : Nat) : Nat → List (List Int)
  | 0 => [[]]
  | m + 1 => (words Sy m).flatMap fun v => (List.range Sy).map fun x => ((x : Nat) : Int) :: v
theorem words_length (Sy : Nat) : ∀ m, (words Sy m).length = Sy ^ m := by
  intro m
  induction m with
  | zero => rfl
  | succ m ih =>
    have : ∀ l : List (List Int), (l.flatMap fun v => (List.range Sy).map fun x => ((x : Nat) : Int) :: v).length = l.length * Sy := by
      intro l
      induction l with
      | nil => simp
      | cons a l ih => rw [List.flatMap_cons, List.length_append, ih, List.length_map, List.length_range, List.length_cons, Nat.succ_mul]; omega
    rw [words, this, ih, Nat.pow_succ]
theorem mem_words (Sy : Nat) : ∀ (m : Nat) (v : List Int), v.length = m → (∀ x ∈ v, 0 ≤ x ∧ x < (Sy : Int)) → v ∈ words Sy m := by
  intro m
  induction m with
  | zero => intro v hv _; rw [List.eq_nil_of_length_eq_zero hv]; simp [words]
  | succ m ih =>
    intro v hv hx
    cases v with
    | nil => simp at hv
    | cons a v =>
      obtain ⟨h0, h1⟩ := hx a (List.mem_cons_self)
      obtain ⟨x, rfl⟩ := Int.eq_ofNat_of_zero_le h0
      rw [words, List.mem_flatMap]
      refine ⟨v, ih v (by simpa using hv) (fun y hy => hx y (List.mem_cons_of_mem _ hy)), ?_⟩
      rw [List.mem_map]
      exact ⟨x, List.mem_range.2 (by omega), rfl⟩
def univ (St Sy n : Nat) : List Cf := (List.range St).flatMap fun s => (List.range n).flatMap fun p => (words Sy 6).map fun v => (((s : Nat) : Int), ((p : Nat) : Int), v)
theorem univ_length (St Sy n : Nat) : (univ St Sy n).length = St * (n * Sy ^ 6) := by
  have h : ∀ {α β : Type} (f : α → List β) (k : Nat) (l : List α), (∀ a, (f a).length = k) → (l.flatMap f).length = l.length * k := by
    intro α β f k l hf
    induction l with
    | nil => simp
    | cons a l ih => rw [List.flatMap_cons, List.length_append, ih, hf, List.length_cons, Nat.succ_mul]; omega
  unfold univ
  rw [h _ (n * Sy ^ 6) _ (fun s => by rw [h _ (Sy ^ 6) _ (fun p => by rw [List.length_map, words_length]), List.length_range]), List.length_range]
theorem mem_univ {St Sy n : Nat} {c : Cf} (hc : InvC St Sy n c) (hi : Inside n c) : c ∈ univ St Sy n := by
  obtain ⟨st, po, v⟩ := c
  obtain ⟨c1, c2, c3, c4, c5, c6⟩ := hc
  obtain ⟨i1, i2, i3⟩ := hi
  simp only at *
  obtain ⟨s, rfl⟩ := Int.eq_ofNat_of_zero_le (show 0 ≤ st by omega)
  obtain ⟨p, rfl⟩ := Int.eq_ofNat_of_zero_le i2
  unfold univ
  rw [List.mem_flatMap]
  refine ⟨s, List.mem_range.2 (by omega), ?_⟩
  rw [List.mem_flatMap]
  refine ⟨p, List.mem_range.2 (by omega), ?_⟩
  rw [List.mem_map]
  exact ⟨v, mem_words Sy 6 v c5 c6, rfl⟩
theorem cnt_lt {α : Type} (l : List α) (p q : α → Bool) (h : ∀ x, q x = true → p x = true) {a : α} (ha : a ∈ l) (hp : p a = true) (hq : q a = false) : l.countP q < l.countP p := by
  induction l with
  | nil => cases ha
  | cons b l ih =>
    have hle : l.countP q ≤ l.countP p := List.countP_mono_left (fun x _ => h x)
    rw [List.countP_cons, List.countP_cons]
    rcases List.mem_cons.1 ha with rfl | ha
    · rw [hp, hq]
      simp
      omega
    · have := ih ha
      cases hb : q b with
      | true => rw [h b hb]; simp; omega
      | false => cases hb2 : p b <;> simp <;> omega
def unseen (U seen : List Cf) : Nat := U.countP (fun x => decide (x ∉ seen))
theorem unseen_lt {U seen : List Cf} {c : Cf} (hc : c ∈ U) (hs : c ∉ seen) : unseen U (c :: seen) < unseen U seen := by
  refine cnt_lt U _ _ (fun x hx => ?_) hc (by simpa using hs) (by simp)
  rw [decide_eq_true_eq] at hx ⊢
  exact fun h => hx (List.mem_cons_of_mem _ h)
theorem okK_of {St Sy : Int} {n : Nat} {c : Cf} (hc : InvC St Sy n c) (hSt : St ≤ 6) (hSy : Sy ≤ 4) (hn : n ≤ 6) : okK c.1 c.2.1 c.2.2 = true := by
  obtain ⟨c1, c2, c3, c4, c5, c6⟩ := hc
  unfold okK
  rw [Bool.and_eq_true, decide_eq_true_eq, List.all_eq_true]
  refine ⟨⟨c1, by omega, c3, by omega⟩, fun x hx => ?_⟩
  rw [decide_eq_true_eq]
  have := c6 x hx
  omega
/-- A moment that was there before: the run never leaves. -/
theorem never {rules : List (List S57)} {n : Nat} {c : Cf} {a b : Nat} (hab : a < b) (he : runC rules a c = runC rules b c) (hi : ∀ t, t < b → Inside n (runC rules t c)) : ∀ t, Inside n (runC rules t c) := by
  intro t
  induction t using Nat.strongRecOn with
  | _ t ih =>
    by_cases h : t < b
    · exact hi t h
    · have e : t = b + (t - b) := by omega
      have e2 : runC rules t c = runC rules (a + (t - b)) c := by
        conv => lhs; rw [e]
        rw [runC_add, runC_add, he]
      rw [e2]
      exact ih _ (by omega)
theorem cross_loop {St Sy n : Nat} {rules : List (List S57)} (h : okM St Sy rules = true) (hn : n ≤ 6) (c0 : Cf) (hc0 : InvC St Sy n c0) : ∀ (m : Nat) (seen : List Cf) (i : Nat), unseen (univ St Sy n) seen ≤ m → i + m ≤ 200000 →
    (∀ x : Cf, x ∈ seen ↔ ∃ t, t < i ∧ runC rules t c0 = x) → (∀ t, t < i → Inside n (runC rules t c0)) →
    ∃ r, Ev (fun k => crossGo rules n k (runC rules i c0).1 (runC rules i c0).2.1 (runC rules i c0).2.2 seen (i : Int)) r ∧ Sem rules n c0 r := by
  obtain ⟨a1, a2, a3, a4, a5, a6⟩ := okM_len h
  intro m
  induction m with
  | zero =>
    intro seen i hm hi hs hin
    have hc := inv_run h hn hc0 i hin
    by_cases hI : Inside n (runC rules i c0)
    · by_cases hmem : runC rules i c0 ∈ seen
      · obtain ⟨t, ht, he⟩ := (hs _).1 hmem
        refine ⟨(3, 0, 0, 0, []), ?_, .inr ⟨never ht he hin, ⟨t, i, ht, by omega, he⟩, rfl⟩⟩
        generalize hcc : runC rules i c0 = c at *
        obtain ⟨st, po, v⟩ := c
        obtain ⟨i1, i2, i3⟩ := hI
        simp only at i1 i2 i3 ⊢
        rw [Ev_succ]
        simp only [crossGo, Ev_ite]
        rw [if_neg i1, if_neg (by omega), if_neg (by omega), if_pos (okK_of hc (by omega) (by omega) hn), if_pos hmem]
        exact Ev.now _
      · have := unseen_lt (mem_univ hc hI) hmem
        omega
    · refine ⟨exitRes n i (runC rules i c0), ?_, .inl ⟨i, by omega, hin, hI, rfl⟩⟩
      generalize hcc : runC rules i c0 = c at *
      obtain ⟨st, po, v⟩ := c
      obtain ⟨c1, c2, c3, c4, c5, c6⟩ := hc
      simp only [Inside] at hI c1 c2 c3 c4 ⊢
      rw [Ev_succ]
      simp only [crossGo, Ev_ite, exitRes]
      by_cases k1 : st = -1
      · rw [if_pos k1, if_pos k1]; exact Ev.now _
      · rw [if_neg k1, if_neg k1]
        by_cases k2 : po < 0
        · rw [if_pos k2, if_pos k2]; exact Ev.now _
        · rw [if_neg k2, if_neg k2, if_pos (by omega)]; exact Ev.now _
  | succ m ih =>
    intro seen i hm hi hs hin
    have hc := inv_run h hn hc0 i hin
    by_cases hI : Inside n (runC rules i c0)
    · by_cases hmem : runC rules i c0 ∈ seen
      · obtain ⟨t, ht, he⟩ := (hs _).1 hmem
        refine ⟨(3, 0, 0, 0, []), ?_, .inr ⟨never ht he hin, ⟨t, i, ht, by omega, he⟩, rfl⟩⟩
        generalize hcc : runC rules i c0 = c at *
        obtain ⟨st, po, v⟩ := c
        obtain ⟨i1, i2, i3⟩ := hI
        simp only at i1 i2 i3 ⊢
        rw [Ev_succ]
        simp only [crossGo, Ev_ite]
        rw [if_neg i1, if_neg (by omega), if_neg (by omega), if_pos (okK_of hc (by omega) (by omega) hn), if_pos hmem]
        exact Ev.now _
      · have hlt := unseen_lt (mem_univ hc hI) hmem
        obtain ⟨r, hr, hS⟩ := ih (runC rules i c0 :: seen) (i + 1) (by omega) (by omega) (fun x => by
          rw [List.mem_cons, hs]
          constructor
          · rintro (rfl | ⟨t, ht, he⟩)
            · exact ⟨i, by omega, rfl⟩
            · exact ⟨t, by omega, he⟩
          · rintro ⟨t, ht, he⟩
            by_cases hti : t = i
            · subst hti; exact .inl he.symm
            · exact .inr ⟨t, by omega, he⟩) (fun t ht => by
          by_cases hti : t = i
          · rw [hti]; exact hI
          · exact hin t (by omega))
        refine ⟨r, ?_, hS⟩
        rw [runC_succ] at hr
        obtain ⟨s1, s2, s3, s4, s5⟩ := inv_step h hn hc hI
        have hc' := hc
        have hK := okK_of hc (by omega) (by omega) hn
        generalize hcc : runC rules i c0 = c at *
        obtain ⟨st, po, v⟩ := c
        obtain ⟨i1, i2, i3⟩ := hI
        obtain ⟨o1, o2, o3, o4, o5⟩ := s2
        obtain ⟨c1, c2, c3, c4, c5, c6⟩ := hc'
        simp only [ruleOf, stepC] at i1 i2 i3 s3 s4 s5 o1 o2 o3 o4 o5 c1 c2 hr ⊢
        rw [Ev_succ]
        simp only [crossGo, Ev_ite, Ev_none]
        rw [if_neg i1, if_neg (by omega), if_neg (by omega), if_pos hK, if_neg hmem, if_pos ⟨by omega, s3, by omega⟩, if_pos ⟨s4, s5⟩, if_pos ⟨o1, by omega, by omega, by omega⟩, wrapn i (by omega)]
        exact hr
    · refine ⟨exitRes n i (runC rules i c0), ?_, .inl ⟨i, by omega, hin, hI, rfl⟩⟩
      generalize hcc : runC rules i c0 = c at *
      obtain ⟨st, po, v⟩ := c
      obtain ⟨c1, c2, c3, c4, c5, c6⟩ := hc
      simp only [Inside] at hI c1 c2 c3 c4 ⊢
      rw [Ev_succ]
      simp only [crossGo, Ev_ite, exitRes]
      by_cases k1 : st = -1
      · rw [if_pos k1, if_pos k1]; exact Ev.now _
      · rw [if_neg k1, if_neg k1]
        by_cases k2 : po < 0
        · rw [if_pos k2, if_pos k2]; exact Ev.now _
        · rw [if_neg k2, if_neg k2, if_pos (by omega)]; exact Ev.now _
def pad (w : List Int) : List Int := w ++ List.replicate (6 - w.length) 0
theorem pad_inv {St Sy : Int} {st po : Int} {w : List Int} (h0 : 0 ≤ st) (h1 : st < St) (h2 : 0 ≤ po) (h3 : po < (w.length : Int)) (h4 : w.length ≤ 6) (h5 : ∀ x ∈ w, 0 ≤ x ∧ x < Sy) (hS : 2 ≤ Sy) : InvC St Sy w.length (st, po, pad w) := by
  refine ⟨by simp only; omega, h1, by simp only; omega, by simp only; omega, by simp [pad]; omega, fun x hx => ?_⟩
  rcases List.mem_append.1 hx with hx | hx
  · exact h5 x hx
  · rw [List.mem_replicate] at hx
    omega
theorem cross_f {St Sy : Int} {rules : List (List S57)} (h : okM St Sy rules = true) {st po : Int} {w : List Int} (h0 : 0 ≤ st) (h1 : st < St) (h2 : 0 ≤ po) (h3 : po < (w.length : Int)) (h4 : w.length ≤ 6) (h5 : ∀ x ∈ w, 0 ≤ x ∧ x < Sy) :
    ∃ r, Ev (fun k => block_cross.f k St Sy rules st po w) r ∧ Sem rules w.length (st, po, pad w) r := by
  obtain ⟨a1, a2, a3, a4, a5, a6⟩ := okM_len h
  obtain ⟨S, rfl⟩ := Int.eq_ofNat_of_zero_le (show 0 ≤ St by omega)
  obtain ⟨Y, rfl⟩ := Int.eq_ofNat_of_zero_le (show 0 ≤ Sy by omega)
  have hU : (univ S Y w.length).length ≤ 147456 := by
    rw [univ_length]
    have hY : Y ^ 6 ≤ 4 ^ 6 := Nat.pow_le_pow_left (by omega) 6
    calc S * (w.length * Y ^ 6) ≤ 6 * (6 * 4 ^ 6) := Nat.mul_le_mul (by omega) (Nat.mul_le_mul h4 hY)
      _ = 147456 := by decide
  have hu : unseen (univ S Y w.length) [] ≤ 147456 := Nat.le_trans List.countP_le_length hU
  obtain ⟨r, hr, hS⟩ := cross_loop h h4 (st, po, pad w) (pad_inv h0 h1 h2 h3 h4 h5 a3) 147456 [] 0 hu (by omega) (fun x => by simp) (fun t ht => by omega)
  refine ⟨r, ?_, hS⟩
  unfold block_cross.f
  simp only [if_pos h4]
  exact hr
/-- Cross: what it answers to every question about a valid machine. -/
def goodArgs (St Sy st po : Int) (w : List Int) : Prop := 0 ≤ st ∧ st < St ∧ 1 ≤ w.length ∧ w.length ≤ 6 ∧ 0 ≤ po ∧ po < (w.length : Int) ∧ ∀ x ∈ w, 0 ≤ x ∧ x < Sy
instance (St Sy st po : Int) (w : List Int) : Decidable (goodArgs St Sy st po w) := by unfold goodArgs; infer_instance
def withOk (r : Int × Int × Int × Int × List Int) : Int × Int × Int × Int × List Int × Int := (r.1, r.2.1, r.2.2.1, r.2.2.2.1, r.2.2.2.2, 0)
theorem Cross_l0 {St Sy : Int} {rules : List (List S57)} (st po : Int) (w : List Int) (hw : w.length ≤ 6) : ∀ (d i : Nat), i + d = w.length →
    ((∀ x ∈ w.drop i, 0 ≤ x ∧ x < Sy) → ∀ r, Ev (fun k => block_cross.f k St Sy rules st po w) r → Ev (fun k => block_Cross.l0 k st po w w (w.length : Int) (i : Int) St Sy rules) (withOk r)) ∧
    (¬ (∀ x ∈ w.drop i, 0 ≤ x ∧ x < Sy) → Ev (fun k => block_Cross.l0 k st po w w (w.length : Int) (i : Int) St Sy rules) (0, 0, 0, 0, [], 2)) := by
  intro d
  induction d with
  | zero =>
    intro i hi
    have e : w.drop i = [] := List.drop_eq_nil_of_le (by omega)
    refine ⟨fun _ r hr => ?_, fun h => absurd (fun x hx => by rw [e] at hx; cases hx) h⟩
    rw [Ev_succ]
    simp only [block_Cross.l0, Ev_ite, Ev_none]
    rw [if_neg (by omega), Ev_bind hr]
    exact Ev.now _
  | succ d ih =>
    intro i hi
    have hlt : i < w.length := by omega
    obtain ⟨ih1, ih2⟩ := ih (i + 1) (by omega)
    rw [drop_cons w i hlt]
    have hd : (∀ x ∈ w[i] :: w.drop (i + 1), 0 ≤ x ∧ x < Sy) ↔ (0 ≤ w[i] ∧ w[i] < Sy) ∧ ∀ x ∈ w.drop (i + 1), 0 ≤ x ∧ x < Sy := List.forall_mem_cons
    rw [hd]
    have body : ∀ R, ((0 ≤ w[i] ∧ w[i] < Sy) → Ev (fun k => block_Cross.l0 k st po w w (w.length : Int) ((i + 1 : Nat) : Int) St Sy rules) R) → (¬ (0 ≤ w[i] ∧ w[i] < Sy) → R = (0, 0, 0, 0, [], 2)) → Ev (fun k => block_Cross.l0 k st po w w (w.length : Int) (i : Int) St Sy rules) R := by
      intro R h1 h2
      rw [Ev_succ]
      simp only [block_Cross.l0, Ev_ite, Ev_none]
      rw [if_pos (by omega), if_pos (by omega), if_pos (by omega), rd_nat w i hlt, wrapn i (by omega)]
      by_cases k1 : w[i] < 0
      · rw [if_pos k1, h2 (by omega)]; exact Ev.now _
      rw [if_neg k1]
      by_cases k2 : w[i] ≥ Sy
      · rw [if_pos k2, h2 (by omega)]; exact Ev.now _
      rw [if_neg k2]
      exact h1 ⟨by omega, by omega⟩
    refine ⟨fun h r hr => body _ (fun _ => ih1 h.2 r hr) (fun h3 => absurd h.1 h3), fun h => body _ (fun h3 => ih2 (fun h4 => h ⟨h3, h4⟩)) (fun _ => rfl)⟩
theorem Cross_ev {St Sy : Int} {rules : List (List S57)} (h : okM St Sy rules = true) (st po : Int) (w : List Int) (hw : w.length ≤ 100000) :
    (goodArgs St Sy st po w → ∃ r, Ev (fun k => block_Cross.f k St Sy rules st po w) (withOk r) ∧ Sem rules w.length (st, po, pad w) r) ∧
    (¬ goodArgs St Sy st po w → Ev (fun k => block_Cross.f k St Sy rules st po w) (0, 0, 0, 0, [], 2)) := by
  obtain ⟨a1, a2, a3, a4, a5, a6⟩ := okM_len h
  have htv := tv_f St Sy rules (by omega) (fun r hr => by have := (a6 r hr).1; omega)
  rw [h] at htv
  have bad : Ev (fun k => block_Cross.j0 k st po w true St Sy rules) (0, 0, 0, 0, [], 2) := by
    rw [Ev_succ]
    simp only [block_Cross.j0, if_true]
    exact Ev.now _
  have good : Ev (fun k => block_Cross.l0 k st po w w (w.length : Int) 0 St Sy rules) = Ev (fun k => block_Cross.l0 k st po w w (w.length : Int) ((0 : Nat) : Int) St Sy rules) := rfl
  have hj : ∀ R, Ev (fun k => block_Cross.l0 k st po w w (w.length : Int) 0 St Sy rules) R → Ev (fun k => block_Cross.j0 k st po w false St Sy rules) R := by
    intro R hR
    rw [Ev_succ]
    simp only [block_Cross.j0, Ev_ite, Bool.false_eq_true, if_false]
    exact hR
  constructor
  · rintro ⟨g1, g2, g3, g4, g5, g6, g7⟩
    obtain ⟨r, hr, hS⟩ := cross_f h g1 g2 g5 g6 g4 g7
    refine ⟨r, ?_, hS⟩
    unfold block_Cross.f
    rw [Ev_bind htv]
    simp only [if_true, Ev_ite]
    rw [if_neg (by omega), if_neg (by omega), if_neg (by omega), if_neg (by omega), if_neg (by omega), decide_eq_false (by omega)]
    exact hj _ ((Cross_l0 st po w g4 w.length 0 (by omega)).1 g7 r hr)
  · intro hg
    unfold block_Cross.f
    rw [Ev_bind htv]
    simp only [if_true, Ev_ite]
    split
    · exact bad
    split
    · exact bad
    split
    · exact bad
    split
    · exact bad
    split
    · exact bad
    · by_cases k : po ≥ (w.length : Int)
      · rw [decide_eq_true k]; exact bad
      · rw [decide_eq_false k]
        refine hj _ ((Cross_l0 st po w (by omega) w.length 0 (by omega)).2 (fun hx => hg ⟨by omega, by omega, by omega, by omega, by omega, by omega, hx⟩))

theorem same_loop (l : List Int) (hl : l.length ≤ 100000) : ∀ (d i : Nat), i + d = l.length → Ev (fun k => standstillref01_SameInts.l0 k l l (i : Int)) true := by
  intro d
  induction d with
  | zero =>
    intro i hi
    rw [Ev_succ]
    simp only [standstillref01_SameInts.l0, Ev_ite, Ev_none]
    rw [if_neg (by omega)]
    exact Ev.now _
  | succ d ih =>
    intro i hi
    have ih := ih (i + 1) (by omega)
    rw [Ev_succ]
    simp only [standstillref01_SameInts.l0, Ev_ite, Ev_none]
    rw [if_pos (by omega), if_pos (by omega), if_pos (by omega), if_pos trivial, wrapn i (by omega)]
    exact ih
theorem same_ev (l : List Int) (hl : l.length ≤ 100000) : Ev (fun k => standstillref01_SameInts.f k l l) true := by
  unfold standstillref01_SameInts.f
  simp only [if_true]
  exact same_loop l hl l.length 0 (by omega)
theorem awake_ev : Ev (fun k => standstilllaw05_awake.f k) true := Ev.of (k := 80) standstilllaw05_awake.mono (by decide +kernel)
theorem awake_b : Ev (fun k => (standstilllaw05_awake.f k).bind fun t => some t) true := by
  rw [Ev_bind awake_ev]
  exact Ev.now _
theorem wide_tot (rules : List (List S57)) (x y : Int) (hl : rules.length ≤ 10000000000000) (hr : ∀ r ∈ rules, r.length ≤ 10000000000000) : ∀ (d i : Nat) (n : Int), i + d = rules.length → 0 ≤ n → n ≤ 100000000000000000 →
    ∃ b, Ev (fun k => standstilllaw05_wide.l0 k n (i : Int) x y rules) b := by
  intro d
  induction d with
  | zero =>
    intro i n hi h0 h1
    refine ⟨decide (n > 1000), ?_⟩
    rw [Ev_succ]
    simp only [standstilllaw05_wide.l0, Ev_ite, Ev_none]
    rw [if_neg (by omega)]
    exact Ev.now _
  | succ d ih =>
    intro i n hi h0 h1
    have hlt : i < rules.length := by omega
    by_cases c : n ≤ 1000
    · have hm := hr _ (List.getElem_mem hlt)
      have e : wrap64 (n + (rules[i].length : Int)) = n + (rules[i].length : Int) := wrap_id (by omega) (by omega)
      obtain ⟨b, hb⟩ := ih (i + 1) (n + (rules[i].length : Int)) (by omega) (by omega) (by omega)
      refine ⟨b, ?_⟩
      rw [Ev_succ]
      simp only [standstilllaw05_wide.l0, Ev_ite, Ev_none]
      rw [if_pos (by omega), if_pos c, if_pos (by omega), rdL rules i hlt, e, wrapn i (by omega)]
      exact hb
    · refine ⟨decide (n > 1000), ?_⟩
      rw [Ev_succ]
      simp only [standstilllaw05_wide.l0, Ev_ite, Ev_none]
      rw [if_pos (by omega), if_neg c]
      exact Ev.now _
theorem exit_word {St Sy : Int} {rules : List (List S57)} (h : okM St Sy rules = true) {n : Nat} (hn : n ≤ 6) {c : Cf} (hc : InvC St Sy n c) {r : Int × Int × Int × Int × List Int} (hS : Sem rules n c r) : r.2.2.2.2.length ≤ 6 ∧ (r.1 = 0 ∨ r.1 = 1 ∨ r.1 = 2 ∨ r.1 = 3) ∧ -1 ≤ r.2.2.2.1 ∧ r.2.2.2.1 ≤ 6 := by
  rcases hS with ⟨T, h0, h1, h2, rfl⟩ | ⟨h1, _, rfl⟩
  · obtain ⟨c1, c2, c3, c4, c5, c6⟩ := inv_run h hn hc T h1
    unfold exitRes
    refine ⟨by simp only; rw [List.length_take]; omega, ?_, by simp only; omega, by simp only; omega⟩
    simp only
    split
    · simp
    · split <;> simp
  · exact ⟨by simp, by simp, by simp, by simp⟩

def symB (Sy : Int) (l : List Int) : Bool := l.all (fun x => decide (0 ≤ x ∧ x < Sy))
theorem symB_iff {Sy : Int} {l : List Int} : symB Sy l = true ↔ ∀ x ∈ l, 0 ≤ x ∧ x < Sy := by
  unfold symB
  rw [List.all_eq_true]
  constructor
  · intro h x hx; exact of_decide_eq_true (h x hx)
  · intro h x hx; exact decide_eq_true (h x hx)
theorem word_ev (St Sy : Int) (rules : List (List S57)) (w : List Int) (hw : w.length ≤ 100000) : Ev (fun k => standstillref05_Word.f k St Sy rules w) (symB Sy w && decide (1 ≤ w.length ∧ w.length ≤ 6)) := by
  have H : ∀ (d i : Nat), i + d = w.length → Ev (fun k => standstillref05_Word.l0 k w (i : Int) St Sy rules) (symB Sy (w.drop i) && decide (1 ≤ w.length ∧ w.length ≤ 6)) := by
    intro d
    induction d with
    | zero =>
      intro i hi
      have e : w.drop i = [] := List.drop_eq_nil_of_le (by omega)
      rw [Ev_succ]
      simp only [standstillref05_Word.l0, Ev_ite, Ev_none]
      rw [if_neg (by omega), e]
      have hs : symB Sy [] = true := rfl
      rw [hs, Bool.true_and]
      by_cases k : (w.length : Int) ≥ 1
      · rw [if_pos k]
        have : decide ((w.length : Int) ≤ 6) = decide (1 ≤ w.length ∧ w.length ≤ 6) := by
          rw [decide_eq_decide]
          omega
        rw [← this]
        exact Ev.now _
      · rw [if_neg k, decide_eq_false (by omega)]
        exact Ev.now _
    | succ d ih =>
      intro i hi
      have hlt : i < w.length := by omega
      have ih := ih (i + 1) (by omega)
      rw [drop_cons w i hlt]
      have hs : symB Sy (w[i] :: w.drop (i + 1)) = (decide (0 ≤ w[i] ∧ w[i] < Sy) && symB Sy (w.drop (i + 1))) := rfl
      rw [hs, Ev_succ]
      simp only [standstillref05_Word.l0, Ev_ite, Ev_none]
      rw [if_pos (by omega), if_pos (by omega), rd_nat w i hlt, wrapn i (by omega)]
      by_cases k1 : w[i] < 0
      · rw [if_pos k1, decide_eq_false (by omega)]; exact Ev.now _
      rw [if_neg k1]
      by_cases k2 : w[i] ≥ Sy
      · rw [if_pos k2, decide_eq_false (by omega)]; exact Ev.now _
      rw [if_neg k2, decide_eq_true (show 0 ≤ w[i] ∧ w[i] < Sy by omega), Bool.true_and]
      exact ih
  unfold standstillref05_Word.f
  exact H w.length 0 (by omega)

theorem mulb {a b A B : Int} (h0 : 0 ≤ a) (h1 : a ≤ A) (h2 : 0 ≤ b) (h3 : b ≤ B) : 0 ≤ a * b ∧ a * b ≤ A * B := ⟨Int.mul_nonneg h0 h2, Int.mul_le_mul h1 h3 h2 (by omega)⟩
theorem divu {S a b x y : Int} (hx : 0 ≤ x) (hx2 : x < S) (hy : 0 ≤ y) (hy2 : y < S) (h : a * S + x = b * S + y) : a = b ∧ x = y := by
  have aux : ∀ {a b x y : Int}, 0 ≤ x → y < S → 0 ≤ y → x < S → a * S + x = b * S + y → ¬ a < b := by
    intro a b x y h1 h2 h3 h4 h5 h6
    have h7 : (a + 1) * S ≤ b * S := Int.mul_le_mul_of_nonneg_right (by omega) (by omega)
    rw [Int.add_mul, Int.one_mul] at h7
    omega
  have h1 := aux hx hy2 hy hx2 h
  have h2 := aux hy hx2 hx hy2 h.symm
  have e : a = b := by omega
  subst e
  exact ⟨rfl, by omega⟩
def numb (Sy : Int) (l : List Int) : Int := l.foldl (fun a x => a * Sy + x) 0
theorem numb_snoc (Sy : Int) (l : List Int) (x : Int) : numb Sy (l ++ [x]) = numb Sy l * Sy + x := by
  unfold numb
  rw [List.foldl_append]
  rfl
theorem snoc_of {l : List Int} {n : Nat} (h : l.length = n + 1) : ∃ l' x, l = l' ++ [x] ∧ l'.length = n := by
  refine ⟨l.take n, l[n], ?_, by rw [List.length_take]; omega⟩
  rw [← take_snoc l n (by omega), List.take_of_length_le (by omega)]
theorem numb_bound (Sy : Int) (hS : 1 ≤ Sy) : ∀ (n : Nat) (l : List Int), l.length = n → (∀ x ∈ l, 0 ≤ x ∧ x < Sy) → 0 ≤ numb Sy l ∧ numb Sy l ≤ Sy ^ n - 1 := by
  intro n
  induction n with
  | zero => intro l hl _; rw [List.eq_nil_of_length_eq_zero hl]; simp [numb]
  | succ n ih =>
    intro l hl hx
    obtain ⟨l', x, rfl, hl'⟩ := snoc_of hl
    obtain ⟨h1, h2⟩ := ih l' hl' (fun y hy => hx y (List.mem_append_left _ hy))
    obtain ⟨h3, h4⟩ := hx x (List.mem_append_right _ (List.mem_singleton.2 rfl))
    rw [numb_snoc, Int.pow_succ]
    have h5 : numb Sy l' * Sy ≤ (Sy ^ n - 1) * Sy := Int.mul_le_mul_of_nonneg_right h2 (by omega)
    have h6 : 0 ≤ numb Sy l' * Sy := Int.mul_nonneg h1 (by omega)
    rw [Int.sub_mul, Int.one_mul] at h5
    omega
theorem numb_inj (Sy : Int) : ∀ (n : Nat) (l m : List Int), l.length = n → m.length = n → (∀ x ∈ l, 0 ≤ x ∧ x < Sy) → (∀ x ∈ m, 0 ≤ x ∧ x < Sy) → numb Sy l = numb Sy m → l = m := by
  intro n
  induction n with
  | zero => intro l m hl hm _ _ _; rw [List.eq_nil_of_length_eq_zero hl, List.eq_nil_of_length_eq_zero hm]
  | succ n ih =>
    intro l m hl hm hx hy he
    obtain ⟨l', x, rfl, hl'⟩ := snoc_of hl
    obtain ⟨m', y, rfl, hm'⟩ := snoc_of hm
    obtain ⟨h3, h4⟩ := hx x (List.mem_append_right _ (List.mem_singleton.2 rfl))
    obtain ⟨h5, h6⟩ := hy y (List.mem_append_right _ (List.mem_singleton.2 rfl))
    rw [numb_snoc, numb_snoc] at he
    obtain ⟨e1, rfl⟩ := divu h3 h4 h5 h6 he
    rw [ih l' m' hl' hm' (fun z hz => hx z (List.mem_append_left _ hz)) (fun z hz => hy z (List.mem_append_left _ hz)) e1]
theorem pow4 {Sy : Int} (h0 : 1 ≤ Sy) (h1 : Sy ≤ 4) {n : Nat} (hn : n ≤ 6) : 1 ≤ Sy ^ n ∧ Sy ^ n ≤ 4096 := by
  have hd : ∀ m : Nat, m ≤ 6 → 1 ≤ Sy ^ m ∧ Sy ^ m ≤ (4 : Int) ^ m := by
    intro m
    induction m with
    | zero => intro _; simp
    | succ m ih =>
      intro hm
      obtain ⟨i1, i2⟩ := ih (by omega)
      rw [Int.pow_succ, Int.pow_succ]
      have h3 := mulb (show (0 : Int) ≤ Sy ^ m by omega) i2 (show (0 : Int) ≤ Sy by omega) h1
      have h4 : Sy ^ m * 1 ≤ Sy ^ m * Sy := Int.mul_le_mul_of_nonneg_left h0 (by omega)
      omega
  obtain ⟨h2, h3⟩ := hd n hn
  refine ⟨h2, ?_⟩
  have : (4 : Int) ^ n ≤ 4096 := by
    rcases (show n = 0 ∨ n = 1 ∨ n = 2 ∨ n = 3 ∨ n = 4 ∨ n = 5 ∨ n = 6 by omega) with rfl | rfl | rfl | rfl | rfl | rfl | rfl <;> decide
  omega
theorem number_ev (Sy : Int) (hS : 1 ≤ Sy) (hS4 : Sy ≤ 4) (l : List Int) (hl : l.length ≤ 6) (hx : ∀ x ∈ l, 0 ≤ x ∧ x < Sy) : Ev (fun k => standstillref05_Number.f k l Sy) (numb Sy l) := by
  have H : ∀ (d i : Nat), i + d = l.length → Ev (fun k => standstillref05_Number.l0 k l Sy (numb Sy (l.take i)) (i : Int)) (numb Sy l) := by
    intro d
    induction d with
    | zero =>
      intro i hi
      rw [Ev_succ]
      simp only [standstillref05_Number.l0, Ev_ite, Ev_none]
      rw [if_neg (by omega), List.take_of_length_le (by omega)]
      exact Ev.now _
    | succ d ih =>
      intro i hi
      have hlt : i < l.length := by omega
      have ih := ih (i + 1) (by omega)
      rw [take_snoc l i hlt, numb_snoc] at ih
      obtain ⟨b1, b2⟩ := numb_bound Sy hS i (l.take i) (by rw [List.length_take]; omega) (fun x h => hx x (List.mem_of_mem_take h))
      obtain ⟨p1, p2⟩ := pow4 hS hS4 (show i ≤ 6 by omega)
      obtain ⟨x1, x2⟩ := hx _ (List.getElem_mem hlt)
      obtain ⟨m1, m2⟩ := mulb b1 (show numb Sy (l.take i) ≤ 4096 by omega) (show 0 ≤ Sy by omega) hS4
      rw [Ev_succ]
      simp only [standstillref05_Number.l0, Ev_ite, Ev_none]
      rw [if_pos (by omega), if_pos (by omega), rd_nat l i hlt, wrap_id (x := numb Sy (l.take i) * Sy) (by omega) (by omega), wrap_id (x := numb Sy (l.take i) * Sy + l[i]) (by omega) (by omega), wrapn i (by omega)]
      exact ih
  unfold standstillref05_Number.f
  exact H l.length 0 (by omega)
/-- The number of a moment. -/
def idx (St Sy : Int) (n : Nat) (c : Cf) : Int := (numb Sy (c.2.2.take n) * n + c.2.1) * St + c.1
theorem idx_bound {St Sy : Int} {n : Nat} {c : Cf} (h1 : 1 ≤ St) (h2 : St ≤ 6) (h3 : 1 ≤ Sy) (h4 : Sy ≤ 4) (hn : n ≤ 6) (hc : InvC St Sy n c) (hi : Inside n c) :
    0 ≤ numb Sy (c.2.2.take n) ∧ numb Sy (c.2.2.take n) ≤ 4095 ∧ 0 ≤ numb Sy (c.2.2.take n) * n ∧ numb Sy (c.2.2.take n) * n ≤ 24570 ∧ 0 ≤ (numb Sy (c.2.2.take n) * n + c.2.1) * St ∧ (numb Sy (c.2.2.take n) * n + c.2.1) * St ≤ 147456 ∧ 0 ≤ idx St Sy n c ∧ idx St Sy n c < St * n * Sy ^ n := by
  obtain ⟨c1, c2, c3, c4, c5, c6⟩ := hc
  obtain ⟨i1, i2, i3⟩ := hi
  obtain ⟨b1, b2⟩ := numb_bound Sy h3 n (c.2.2.take n) (by rw [List.length_take]; omega) (fun x h => c6 x (List.mem_of_mem_take h))
  obtain ⟨p1, p2⟩ := pow4 h3 h4 hn
  unfold idx
  generalize numb Sy (c.2.2.take n) = q at b1 b2
  generalize Sy ^ n = P at b2 p1 p2
  have hn0 : (0 : Int) ≤ (n : Int) := by omega
  obtain ⟨m1, m2⟩ := mulb b1 (show q ≤ 4095 by omega) hn0 (show (n : Int) ≤ 6 by omega)
  have m3 : q * n ≤ (P - 1) * n := Int.mul_le_mul_of_nonneg_right b2 hn0
  rw [Int.sub_mul, Int.one_mul] at m3
  obtain ⟨m4, m5⟩ := mulb (show 0 ≤ q * n + c.2.1 by omega) (show q * n + c.2.1 ≤ 24576 by omega) (show 0 ≤ St by omega) h2
  have m6 : (q * n + c.2.1) * St ≤ (P * n - 1) * St := Int.mul_le_mul_of_nonneg_right (by omega) (by omega)
  rw [Int.sub_mul, Int.one_mul] at m6
  have m7 : P * n * St = St * n * P := by rw [Int.mul_comm (P * n) St, Int.mul_comm P (n : Int), Int.mul_assoc]
  exact ⟨b1, by omega, m1, by omega, m4, by omega, by omega, by omega⟩
theorem idx_inj {St Sy : Int} {n : Nat} {c d : Cf} (hn : n ≤ 6) (hc : InvC St Sy n c) (hi : Inside n c) (hd : InvC St Sy n d) (hj : Inside n d) (hdrop : c.2.2.drop n = d.2.2.drop n) (he : idx St Sy n c = idx St Sy n d) : c = d := by
  obtain ⟨c1, c2, c3, c4, c5, c6⟩ := hc
  obtain ⟨d1, d2, d3, d4, d5, d6⟩ := hd
  obtain ⟨i1, i2, i3⟩ := hi
  obtain ⟨j1, j2, j3⟩ := hj
  unfold idx at he
  obtain ⟨e1, e2⟩ := divu (by omega) c2 (by omega) d2 he
  obtain ⟨e3, e4⟩ := divu i2 i3 j2 j3 e1
  have e5 := numb_inj Sy n _ _ (by rw [List.length_take]; omega) (by rw [List.length_take]; omega) (fun x h => c6 x (List.mem_of_mem_take h)) (fun x h => d6 x (List.mem_of_mem_take h)) e3
  have e6 : c.2.2 = d.2.2 := by rw [← List.take_append_drop n c.2.2, ← List.take_append_drop n d.2.2, e5, hdrop]
  obtain ⟨a, b, v⟩ := c
  obtain ⟨a', b', v'⟩ := d
  simp only at e2 e4 e6
  rw [e2, e4, e6]
theorem drop_run {rules : List (List S57)} {n : Nat} {c : Cf} : ∀ t, (∀ u, u < t → Inside n (runC rules u c)) → (runC rules t c).2.2.drop n = c.2.2.drop n := by
  intro t
  induction t with
  | zero => intro _; rfl
  | succ t ih =>
    intro hu
    have hI := hu t (by omega)
    rw [runC_succ, ← ih (fun u h => hu u (by omega))]
    obtain ⟨_, i2, i3⟩ := hI
    show ((runC rules t c).2.2.set _ _).drop n = _
    rw [List.drop_set_of_lt (by omega)]
theorem ref_loop {St Sy : Int} {rules : List (List S57)} (h : okM St Sy rules = true) {n : Nat} (hn : n ≤ 6) (w : List Int) (hw : w.length = n) (c0 : Cf) (hc0 : InvC St Sy n c0) {r : Int × Int × Int × Int × List Int} (hS : Sem rules n c0 r) :
    ∀ (d i : Nat) (met : List Bool), i + d = 200000 → (∀ t, t < i → Inside n (runC rules t c0)) → (∀ a b, a < b → b < i → runC rules a c0 ≠ runC rules b c0) → (met.length : Int) = St * n * Sy ^ n →
    (∀ j : Nat, j < met.length → (met.getD j false = true ↔ ∃ t, t < i ∧ idx St Sy n (runC rules t c0) = (j : Int))) →
    Ev (fun k => standstillref05_Cross.l1 k (runC rules i c0).1 (runC rules i c0).2.1 w ((runC rules i c0).2.2.take n) met (i : Int) St Sy rules) r := by
  obtain ⟨a1, a2, a3, a4, a5, a6⟩ := okM_len h
  intro d
  induction d with
  | zero =>
    intro i met hi hin hrep hml hmet
    rcases hS with ⟨T, h0, h1, h2, rfl⟩ | ⟨h1, ⟨a, b, hab, hb, he⟩, rfl⟩
    · have hT : T = i := by
        rcases Nat.lt_or_ge T i with e | e
        · exact absurd (hin T e) h2
        · omega
      subst hT
      have hc := inv_run h hn hc0 T hin
      generalize runC rules T c0 = c at h2 hc
      obtain ⟨st, po, v⟩ := c
      obtain ⟨c1, c2, c3, c4, c5, c6⟩ := hc
      simp only [Inside] at h2 c1 c2 c3 c4 c5 ⊢
      have hl : (v.take n).length = n := by rw [List.length_take]; omega
      rw [Ev_succ]
      simp only [standstillref05_Cross.l1, Ev_ite, exitRes, hl]
      by_cases k1 : st = -1
      · rw [if_pos k1, if_pos k1]; exact Ev.now _
      · rw [if_neg k1, if_neg k1]
        by_cases k2 : po < 0
        · rw [if_pos k2, if_pos k2]; exact Ev.now _
        · rw [if_neg k2, if_neg k2, if_pos (by omega)]; exact Ev.now _
    · rcases Nat.lt_or_ge b i with e | e
      · exact absurd he (hrep a b hab e)
      · have hbi : b = i := by omega
        subst hbi
        have hc := inv_run h hn hc0 b hin
        have hI := h1 b
        obtain ⟨n1, n2, n3, n4, n5, n6, n7, n8⟩ := idx_bound a1 a2 (by omega) a4 hn hc hI
        have hm := (hmet (idx St Sy n (runC rules b c0)).toNat (by omega)).2 ⟨a, hab, by rw [he]; omega⟩
        have hnum := number_ev Sy (by omega) a4 ((runC rules b c0).2.2.take n) (by rw [List.length_take]; omega) (fun x hx => hc.2.2.2.2.2 x (List.mem_of_mem_take hx))
        unfold idx at n7 n8 hm
        generalize runC rules b c0 = c at hI hc hnum hm n1 n2 n3 n4 n5 n6 n7 n8
        obtain ⟨st, po, v⟩ := c
        obtain ⟨c1, c2, c3, c4, c5, c6⟩ := hc
        obtain ⟨i1, i2, i3⟩ := hI
        simp only at i1 i2 i3 c1 c2 c3 c4 c5 n1 n2 n3 n4 n5 n6 n7 n8 hnum hm ⊢
        have hl : (v.take n).length = n := by rw [List.length_take]; omega
        rw [Ev_succ]
        simp only [standstillref05_Cross.l1, Ev_ite, hl]
        rw [if_neg i1, if_neg (by omega), if_neg (by omega), Ev_bind hnum]
        simp only [Ev_ite, hw]
        generalize numb Sy (v.take n) = q at n1 n2 n3 n4 n5 n6 n7 n8 hm
        rw [wrap_id (x := q * (n : Int)) (by omega) (by omega), wrap_id (x := q * (n : Int) + po) (by omega) (by omega), wrap_id (x := (q * (n : Int) + po) * St) (by omega) (by omega), wrap_id (x := (q * (n : Int) + po) * St + st) (by omega) (by omega), if_pos n7, if_pos (by omega), if_pos (by simpa [rdOf] using hm)]
        exact Ev.now _
  | succ d ih =>
    intro i met hi hin hrep hml hmet
    have hc := inv_run h hn hc0 i hin
    by_cases hI : Inside n (runC rules i c0)
    · obtain ⟨n1, n2, n3, n4, n5, n6, n7, n8⟩ := idx_bound a1 a2 (by omega) a4 hn hc hI
      have hmi := hmet (idx St Sy n (runC rules i c0)).toNat (by omega)
      have hsame : (∃ t, t < i ∧ idx St Sy n (runC rules t c0) = ((idx St Sy n (runC rules i c0)).toNat : Int)) ↔ ∃ t, t < i ∧ runC rules t c0 = runC rules i c0 := by
        constructor
        · rintro ⟨t, ht, e⟩
          refine ⟨t, ht, idx_inj hn (inv_run h hn hc0 t (fun u hu => hin u (by omega))) (hin t ht) hc hI ?_ (by omega)⟩
          rw [drop_run t (fun u hu => hin u (by omega)), drop_run i hin]
        · rintro ⟨t, ht, e⟩
          exact ⟨t, ht, by rw [e]; omega⟩
      rw [hsame] at hmi
      have hnum := number_ev Sy (by omega) a4 ((runC rules i c0).2.2.take n) (by rw [List.length_take]; omega) (fun x hx => hc.2.2.2.2.2 x (List.mem_of_mem_take hx))
      by_cases hrp : ∃ t, t < i ∧ runC rules t c0 = runC rules i c0
      · have hm := hmi.2 hrp
        obtain ⟨a, ha, he⟩ := hrp
        have hr3 : r = (3, 0, 0, 0, []) := by
          rcases hS with ⟨T, h0, h1, h2, rfl⟩ | ⟨_, _, rfl⟩
          · exact absurd (never ha he hin T) h2
          · rfl
        subst hr3
        unfold idx at n7 n8 hm
        generalize runC rules i c0 = c at hI hc hnum hm n1 n2 n3 n4 n5 n6 n7 n8
        obtain ⟨st, po, v⟩ := c
        obtain ⟨c1, c2, c3, c4, c5, c6⟩ := hc
        obtain ⟨i1, i2, i3⟩ := hI
        simp only at i1 i2 i3 c1 c2 c3 c4 c5 n1 n2 n3 n4 n5 n6 n7 n8 hnum hm ⊢
        have hl : (v.take n).length = n := by rw [List.length_take]; omega
        rw [Ev_succ]
        simp only [standstillref05_Cross.l1, Ev_ite, hl]
        rw [if_neg i1, if_neg (by omega), if_neg (by omega), Ev_bind hnum]
        simp only [Ev_ite, hw]
        generalize numb Sy (v.take n) = q at n1 n2 n3 n4 n5 n6 n7 n8 hm
        rw [wrap_id (x := q * (n : Int)) (by omega) (by omega), wrap_id (x := q * (n : Int) + po) (by omega) (by omega), wrap_id (x := (q * (n : Int) + po) * St) (by omega) (by omega), wrap_id (x := (q * (n : Int) + po) * St + st) (by omega) (by omega), if_pos n7, if_pos (by omega), if_pos (by simpa [rdOf] using hm)]
        exact Ev.now _
      · have hmf : met.getD (idx St Sy n (runC rules i c0)).toNat false = false := by
          cases hb : met.getD (idx St Sy n (runC rules i c0)).toNat false with
          | false => rfl
          | true => exact absurd (hmi.1 hb) hrp
        have ih2 := ih (i + 1) (met.set (idx St Sy n (runC rules i c0)).toNat true) (by omega) (fun t ht => by
            by_cases e : t = i
            · rw [e]; exact hI
            · exact hin t (by omega)) (fun a b hab hb e => by
            by_cases e2 : b = i
            · rw [e2] at e hab; exact hrp ⟨a, hab, e⟩
            · exact hrep a b hab (by omega) e) (by rw [List.length_set]; exact hml) (fun j hj => by
            rw [List.length_set] at hj
            have hg : (met.set (idx St Sy n (runC rules i c0)).toNat true).getD j false = if (idx St Sy n (runC rules i c0)).toNat = j then true else met.getD j false := by
              by_cases e : (idx St Sy n (runC rules i c0)).toNat = j
              · rw [if_pos e]
                subst e
                simp [List.getD, List.getElem?_set_self hj]
              · rw [if_neg e]
                simp [List.getD, List.getElem?_set_ne e]
            rw [hg]
            split
            · rename_i e
              simp only [true_iff]
              exact ⟨i, by omega, by omega⟩
            · rename_i e
              rw [hmet j hj]
              constructor
              · rintro ⟨t, ht, e2⟩; exact ⟨t, by omega, e2⟩
              · rintro ⟨t, ht, e2⟩
                by_cases e3 : t = i
                · rw [e3] at e2; omega
                · exact ⟨t, by omega, e2⟩)
        rw [runC_succ] at ih2
        obtain ⟨s1, s2, s3, s4, s5⟩ := inv_step h hn hc hI
        unfold idx at n7 n8 hmf ih2
        generalize runC rules i c0 = c at hI hc hnum hmf ih2 n1 n2 n3 n4 n5 n6 n7 n8 s1 s2 s3 s4 s5
        obtain ⟨st, po, v⟩ := c
        obtain ⟨c1, c2, c3, c4, c5, c6⟩ := hc
        obtain ⟨i1, i2, i3⟩ := hI
        obtain ⟨o1, o2, o3, o4, o5⟩ := s2
        simp only [ruleOf, stepC] at i1 i2 i3 c1 c2 c3 c4 c5 n1 n2 n3 n4 n5 n6 n7 n8 hnum hmf ih2 s3 s4 s5 o1 o2 o3 o4 o5 ⊢
        have hl : (v.take n).length = n := by rw [List.length_take]; omega
        have hrv : rd (v.take n) po = rd v po := by
          obtain ⟨p, rfl⟩ := Int.eq_ofNat_of_zero_le i2
          rw [rd_nat _ _ (by omega), rd_nat _ _ (by omega), List.getElem_take]
        have hst : (v.set po.toNat (rd_T57 (rd_L2 rules st) (rd v po)).f0).take n = (v.take n).set po.toNat (rd_T57 (rd_L2 rules st) (rd v po)).f0 := by rw [List.take_set]
        rw [hst] at ih2
        rw [Ev_succ]
        simp only [standstillref05_Cross.l1, Ev_ite, Ev_none, hl, hrv]
        rw [if_neg i1, if_neg (by omega), if_neg (by omega), Ev_bind hnum]
        simp only [Ev_ite, Ev_none, hw]
        generalize numb Sy (v.take n) = q at n1 n2 n3 n4 n5 n6 n7 n8 hmf ih2
        rw [wrap_id (x := q * (n : Int)) (by omega) (by omega), wrap_id (x := q * (n : Int) + po) (by omega) (by omega), wrap_id (x := (q * (n : Int) + po) * St) (by omega) (by omega), wrap_id (x := (q * (n : Int) + po) * St + st) (by omega) (by omega), if_pos n7, if_pos (by omega), if_neg (by show ¬ (met.getD _ false = true); rw [hmf]; decide), if_pos (by omega), if_pos s3, if_pos i2, if_pos (by omega), if_pos s4, if_pos s5, wrap_id (x := po + (rd_T57 (rd_L2 rules st) (rd v po)).f1) (by omega) (by omega), wrapn i (by omega)]
        exact ih2
    · have hx : r = exitRes n i (runC rules i c0) := by
        rcases hS with ⟨T, h0, h1, h2, rfl⟩ | ⟨h1, _, rfl⟩
        · rcases Nat.lt_trichotomy T i with e | e | e
          · exact absurd (hin T e) h2
          · rw [e]
          · exact absurd (h1 i e) hI
        · exact absurd (h1 i) hI
      rw [hx]
      generalize runC rules i c0 = c at hI hc
      obtain ⟨st, po, v⟩ := c
      obtain ⟨c1, c2, c3, c4, c5, c6⟩ := hc
      simp only [Inside] at hI c1 c2 c3 c4 c5 ⊢
      have hl : (v.take n).length = n := by rw [List.length_take]; omega
      rw [Ev_succ]
      simp only [standstillref05_Cross.l1, Ev_ite, exitRes, hl]
      by_cases k1 : st = -1
      · rw [if_pos k1, if_pos k1]; exact Ev.now _
      · rw [if_neg k1, if_neg k1]
        by_cases k2 : po < 0
        · rw [if_pos k2, if_pos k2]; exact Ev.now _
        · rw [if_neg k2, if_neg k2, if_pos (by omega)]; exact Ev.now _
theorem ref_Cross_ev {St Sy : Int} {rules : List (List S57)} (h : okM St Sy rules = true) {st po : Int} {w : List Int} (hg : goodArgs St Sy st po w) {r : Int × Int × Int × Int × List Int} (hS : Sem rules w.length (st, po, pad w) r) : Ev (fun k => standstillref05_Cross.f k St Sy rules st po w) r := by
  obtain ⟨a1, a2, a3, a4, a5, a6⟩ := okM_len h
  obtain ⟨g1, g2, g3, g4, g5, g6, g7⟩ := hg
  have hInv : InvC St Sy w.length (st, po, pad w) := pad_inv g1 g2 g5 g6 g4 g7 a3
  have htk : (pad w).take w.length = w := by unfold pad; rw [List.take_left]
  have hn0 : (0 : Int) ≤ (w.length : Int) := by omega
  obtain ⟨q1, q2⟩ := mulb (show 0 ≤ St by omega) a2 hn0 (show (w.length : Int) ≤ 6 by omega)
  have L : ∀ (d i : Nat), i + d = w.length → Ev (fun k => standstillref05_Cross.l0 k st po w w (St * w.length * Sy ^ i) (i : Int) St Sy rules) r := by
    intro d
    induction d with
    | zero =>
      intro i hi
      have hi' : i = w.length := by omega
      subst hi'
      obtain ⟨p1, p2⟩ := pow4 (show 1 ≤ Sy by omega) a4 g4
      obtain ⟨m1, m2⟩ := mulb q1 (show St * (w.length : Int) ≤ 36 by omega) (show (0 : Int) ≤ Sy ^ w.length by omega) p2
      rw [Ev_succ]
      simp only [standstillref05_Cross.l0, Ev_ite, Ev_none]
      rw [if_neg (by omega), if_pos m1, if_pos (by omega)]
      have := ref_loop h g4 w rfl (st, po, pad w) hInv hS 200000 0 (List.replicate (St * (w.length : Int) * Sy ^ w.length).toNat false) (by omega) (fun t ht => by omega) (fun a b _ hb => by omega) (by rw [List.length_replicate]; omega) (fun j hj => by
        rw [List.length_replicate] at hj
        constructor
        · intro e
          simp [List.getD, List.getElem?_replicate, hj] at e
        · rintro ⟨t, ht, _⟩
          omega)
      simp only [runC, htk] at this
      exact this
    | succ d ih =>
      intro i hi
      have ih := ih (i + 1) (by omega)
      obtain ⟨p1, p2⟩ := pow4 (show 1 ≤ Sy by omega) a4 (show i ≤ 6 by omega)
      obtain ⟨m1, m2⟩ := mulb q1 (show St * (w.length : Int) ≤ 36 by omega) (show (0 : Int) ≤ Sy ^ i by omega) p2
      obtain ⟨m3, m4⟩ := mulb m1 (show St * (w.length : Int) * Sy ^ i ≤ 147456 by omega) (show (0 : Int) ≤ Sy by omega) a4
      rw [Ev_succ]
      simp only [standstillref05_Cross.l0, Ev_ite, Ev_none]
      rw [if_pos (by omega), wrap_id (x := St * (w.length : Int) * Sy ^ i * Sy) (by omega) (by omega), wrapn i (by omega)]
      rw [Int.pow_succ, ← Int.mul_assoc] at ih
      exact ih
  unfold standstillref05_Cross.f
  simp only [Option.bind_some, List.length_nil, Nat.zero_add, List.nil_append]
  simp only [Ev_ite, Ev_none]
  rw [if_pos (by omega), wrap_id (x := St * (w.length : Int)) (by omega) (by omega)]
  have := L w.length 0 (by omega)
  simpa using this
theorem same5_ev (a b c d : Int) (l : List Int) (hl : l.length ≤ 100000) : Ev (fun k => standstillref05_Same.f k a b c d l a b c d l) true := by
  unfold standstillref05_Same.f
  simp only [if_true]
  rw [Ev_bind (same_ev l hl)]
  exact Ev.now _
theorem BlockCrosses : standstilllaw05_BlockCrosses.Pure := by
  intro St Sy rules st po w _ _ hrl hst hpo hw
  apply Ev.rounds
  obtain ⟨hl, hr⟩ := hrl
  have hl' : rules.length ≤ 10000000000000 := by omega
  have hr' : ∀ x ∈ rules, x.length ≤ 10000000000000 := fun x hx => by have := (hr x hx).1; omega
  clear hl hr
  obtain ⟨wd, hwd⟩ := wide_tot rules St Sy hl' hr' rules.length 0 (rules.length : Int) (by omega) (by omega) (by omega)
  unfold standstilllaw05_BlockCrosses.f
  have hwide : Ev (fun k => standstilllaw05_wide.f k St Sy rules) wd := by
    unfold standstilllaw05_wide.f
    exact hwd
  rw [Ev_bind hwide]
  have hj : Ev (fun k => standstilllaw05_BlockCrosses.j0 k st po w true St Sy rules) true := by
    rw [Ev_succ]
    simp only [standstilllaw05_BlockCrosses.j0, Ev_ite]
    rw [if_pos trivial]
    exact awake_b
  cases wd with
  | true => simp only [if_true]; exact hj
  | false =>
    simp only [Bool.false_eq_true, if_false]
    by_cases hw1 : (w.length : Int) > 1000
    · rw [decide_eq_true hw1]; exact hj
    rw [decide_eq_false hw1, Ev_succ]
    simp only [standstilllaw05_BlockCrosses.j0, Ev_ite, Bool.false_eq_true, if_false]
    have hv := rv_f St Sy rules (by omega) (fun x hx => by have := hr' x hx; omega)
    cases hM : okM St Sy rules with
    | false =>
      rw [hM] at hv
      have htv := tv_f St Sy rules (by omega) (fun r hr => by have := hr' r hr; omega)
      rw [hM] at htv
      have hC : Ev (fun k => block_Cross.f k St Sy rules st po w) (0, 0, 0, 0, [], 1) := by
        unfold block_Cross.f
        rw [Ev_bind htv]
        exact Ev.now _
      rw [Ev_bind hC, Ev_bind hv]
      simp only [Bool.false_eq_true, if_false, if_true]
      rw [Ev_bind (same5_ev 0 0 0 0 [] (by simp))]
      simp only [if_true]
      exact awake_b
    | true =>
      rw [hM] at hv
      obtain ⟨p1, p2⟩ := Cross_ev hM st po w (by omega)
      by_cases hg : goodArgs St Sy st po w
      · obtain ⟨r, hr1, hS⟩ := p1 hg
        have hrf := ref_Cross_ev hM hg hS
        obtain ⟨g1, g2, g3, g4, g5, g6, g7⟩ := hg
        obtain ⟨a1, a2, a3, a4, a5, a6⟩ := okM_len hM
        have hx := exit_word hM g4 (pad_inv g1 g2 g5 g6 g4 g7 a3) hS
        have hwv := word_ev St Sy rules w (by omega)
        rw [symB_iff.2 g7, decide_eq_true ⟨g3, g4⟩, Bool.and_self] at hwv
        rw [Ev_bind hr1, Ev_bind hv]
        simp only [if_true, Ev_ite, withOk]
        rw [if_neg (by omega), if_neg (by omega), Ev_bind hwv]
        simp only [if_true, Ev_ite]
        rw [if_neg (by omega), decide_eq_false (by omega), Ev_succ]
        simp only [standstilllaw05_BlockCrosses.j1, Ev_ite, Bool.false_eq_true, if_false, if_true]
        rw [Ev_bind hrf]
        obtain ⟨x1, x2, x3, x4, x5⟩ := r
        simp only at hx ⊢
        rw [Ev_bind (same5_ev x1 x2 x3 x4 x5 (by omega))]
        simp only [if_true]
        exact awake_b
      · have hC := p2 hg
        have bad : Ev (fun k => standstilllaw05_BlockCrosses.j1 k st po w 2 true St Sy rules 0 0 0 0 []) true := by
          rw [Ev_succ]
          simp only [standstilllaw05_BlockCrosses.j1, Ev_ite, if_true]
          rw [Ev_bind (same5_ev 0 0 0 0 [] (by simp))]
          simp only [if_true]
          exact awake_b
        rw [Ev_bind hC, Ev_bind hv]
        simp only [if_true, Ev_ite]
        split
        · exact bad
        split
        · exact bad
        rw [Ev_bind (word_ev St Sy rules w (by omega))]
        cases hwd : (symB Sy w && decide (1 ≤ w.length ∧ w.length ≤ 6)) with
        | true =>
          rw [Bool.and_eq_true, decide_eq_true_eq, symB_iff] at hwd
          simp only [if_true, Ev_ite]
          split
          · exact bad
          · by_cases k : po ≥ (w.length : Int)
            · rw [decide_eq_true k]; exact bad
            · exact absurd ⟨by omega, by omega, hwd.2.1, hwd.2.2, by omega, by omega, hwd.1⟩ hg
        | false =>
          simp only [Bool.false_eq_true, if_false]
          exact bad

end Go.Proofs.Ytcdejoaekkcknaa.Pure
