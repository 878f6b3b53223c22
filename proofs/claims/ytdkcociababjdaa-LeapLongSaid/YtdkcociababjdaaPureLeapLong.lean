/- The plain law of LeapLong: a longer run ahead of the head makes a leap longer by as many steps, and leaves as many more cells behind it. No condition beyond what every argument has (numbers of their kind, lists within memory). -/
import Derived.Test.YtdkcociababjdaaTAid
import Derived.Test.YtdkcociababjdaaPLeapLongx11
namespace Go.Proofs.Ytdkcociababjdaa.Pure
open Go.RowKit Go.Proofs.Ytdkcociababjdaa.PLeapLong Go.Proofs.YtdkcociababjdaaW.PrintWords Go.Proofs.YtdkcociababjdaaW.PrintLast Go.Proofs.YtdkcociababjdaaW.PrintMore Go.Proofs.YtdkcociababjdaaAid
set_option linter.unusedVariables false
set_option linter.unusedSimpArgs false

theorem wrapn (i : Nat) (h : i ≤ 1000000000000000000) : wrap64 ((i : Int) + 1) = ((i + 1 : Nat) : Int) := by
  rw [wrap_id (by omega) (by omega)]; omega
theorem rdT (l : List S37) (i : Nat) (h : i < l.length) : rd_T37 l (i : Int) = l[i] := by
  simp [rd_T37, List.getD, h]
theorem rdL (l : List (List S37)) (i : Nat) (h : i < l.length) : rd_L2 l (i : Int) = l[i] := by
  simp [rd_L2, List.getD, h]
def okR (St Sy : Int) (r : S37) : Prop := 0 ≤ r.f0 ∧ r.f0 < Sy ∧ (r.f1 = -1 ∨ r.f1 = 1) ∧ -1 ≤ r.f2 ∧ r.f2 < St
instance decOkR (St Sy : Int) (r : S37) : Decidable (okR St Sy r) := by unfold okR; infer_instance
def okRb (St Sy : Int) (r : S37) : Bool := decide (okR St Sy r)
def okRow (St Sy : Int) (l : List S37) : Bool := decide ((l.length : Int) = Sy) && l.all (okRb St Sy)
def okM (St Sy : Int) (l : List (List S37)) : Bool := decide (1 ≤ St ∧ St ≤ 6 ∧ 2 ≤ Sy ∧ Sy ≤ 4 ∧ (l.length : Int) = St) && l.all (okRow St Sy)

theorem tv_row (St Sy : Int) (rules : List (List S37)) (row : List S37) (j : Nat) (B : Bool) (hr : row.length ≤ 100000000000000) (hB : Ev (fun k => tape_Valid.l0 k rules (rules.length : Int) (wrap64 ((j : Int) + 1)) St Sy rules) B) : ∀ (d i : Nat), i + d = row.length →
    Ev (fun k => tape_Valid.l1 k rules (rules.length : Int) (j : Int) row (row.length : Int) (i : Int) St Sy rules) ((row.drop i).all (okRb St Sy) && B) := by
  intro d
  induction d with
  | zero =>
    intro i hi
    rw [Ev_succ]
    simp only [tape_Valid.l1, Ev_ite, Ev_some, Ev_none]
    rw [if_neg (by omega), List.drop_eq_nil_of_le (by omega)]
    simpa using hB
  | succ d ih =>
    intro i hi
    have hlt : i < row.length := by omega
    have ih := ih (i + 1) (by omega)
    rw [drop_cons row i hlt, List.all_cons, Ev_succ]
    simp only [tape_Valid.l1, Ev_ite, Ev_some, Ev_none]
    rw [if_pos (by omega), if_pos (by omega), if_pos (by omega), rdT row i hlt, wrapn i (by omega)]
    generalize row[i] = x
    obtain ⟨f0, f1, f2⟩ := x
    simp only
    by_cases hok : okR St Sy ⟨f0, f1, f2⟩
    · rw [okRb, decide_eq_true hok, Bool.true_and]
      obtain ⟨h0, h1, h2, h3, h4⟩ := hok
      simp only at h0 h1 h2 h3 h4
      rw [if_neg (by omega), if_neg (by omega)]
      rcases h2 with h2 | h2
      · rw [if_pos h2, if_neg (by omega), if_neg (by omega)]
        exact ih
      · rw [if_neg (by omega), if_pos h2, if_neg (by omega), if_neg (by omega)]
        exact ih
    · rw [okRb, decide_eq_false hok, Bool.false_and, Bool.false_and]
      simp only [okR] at hok
      by_cases c0 : f0 < 0
      · rw [if_pos c0]
      rw [if_neg c0]
      by_cases c1 : f0 ≥ Sy
      · rw [if_pos c1]
      rw [if_neg c1]
      by_cases c2 : f1 = -1
      · rw [if_pos c2]
        by_cases c3 : f2 < -1
        · rw [if_pos c3]
        rw [if_neg c3]
        by_cases c4 : f2 ≥ St
        · rw [if_pos c4]
        · exact absurd ⟨by omega, by omega, .inl c2, by omega, by omega⟩ hok
      rw [if_neg c2]
      by_cases c5 : f1 = 1
      · rw [if_pos c5]
        by_cases c3 : f2 < -1
        · rw [if_pos c3]
        rw [if_neg c3]
        by_cases c4 : f2 ≥ St
        · rw [if_pos c4]
        · exact absurd ⟨by omega, by omega, .inr c5, by omega, by omega⟩ hok
      · rw [if_neg c5]
theorem tv_rows (St Sy : Int) (rules : List (List S37)) (hl : rules.length ≤ 100000000000000) (hr : ∀ r ∈ rules, r.length ≤ 100000000000000) : ∀ (d j : Nat), j + d = rules.length →
    Ev (fun k => tape_Valid.l0 k rules (rules.length : Int) (j : Int) St Sy rules) ((rules.drop j).all (okRow St Sy)) := by
  intro d
  induction d with
  | zero =>
    intro j hj
    rw [Ev_succ]
    simp only [tape_Valid.l0, Ev_ite, Ev_some, Ev_none]
    rw [if_neg (by omega), List.drop_eq_nil_of_le (by omega)]
    rfl
  | succ d ih =>
    intro j hj
    have hlt : j < rules.length := by omega
    have ih := ih (j + 1) (by omega)
    rw [drop_cons rules j hlt, List.all_cons, Ev_succ]
    simp only [tape_Valid.l0, Ev_ite, Ev_some, Ev_none]
    rw [if_pos (by omega), if_pos (by omega), if_pos (by omega), rdL rules j hlt]
    by_cases c : ((rules[j].length : Nat) : Int) = Sy
    · rw [if_pos c, okRow, decide_eq_true c, Bool.true_and]
      have := tv_row St Sy rules rules[j] j _ (hr _ (List.getElem_mem hlt)) (by rw [wrapn j (by omega)]; exact ih) rules[j].length 0 (by omega)
      simpa using this
    · rw [if_neg c, okRow, decide_eq_false c]
      rfl
theorem tv_f (St Sy : Int) (rules : List (List S37)) (hl : rules.length ≤ 100000000000000) (hr : ∀ r ∈ rules, r.length ≤ 100000000000000) : Ev (fun k => tape_Valid.f k St Sy rules) (okM St Sy rules) := by
  have hj : ∀ b, Ev (fun k => tape_Valid.j0 k b St Sy rules) (!b && rules.all (okRow St Sy)) := by
    intro b
    rw [Ev_succ]
    simp only [tape_Valid.j0, Ev_ite, Ev_some]
    cases b with
    | true => simp
    | false =>
      have := tv_rows St Sy rules hl hr rules.length 0 (by omega)
      simpa using this
  unfold tape_Valid.f okM
  simp only [Ev_ite]
  by_cases c : 1 ≤ St ∧ St ≤ 6 ∧ 2 ≤ Sy ∧ Sy ≤ 4
  · rw [if_neg (by omega), if_neg (by omega), if_neg (by omega), if_neg (by omega)]
    have := hj ((rules.length : Int) != St)
    by_cases e : (rules.length : Int) = St
    · rw [decide_eq_true ⟨c.1, c.2.1, c.2.2.1, c.2.2.2, e⟩]
      simpa [e] using this
    · rw [decide_eq_false (fun h => e h.2.2.2.2), Bool.false_and]
      have hb : ((rules.length : Int) != St) = true := by simp [e]
      rw [hb] at this ⊢
      simpa using this
  · have h := hj true
    rw [decide_eq_false (fun h => c ⟨h.1, h.2.1, h.2.2.1, h.2.2.2.1⟩), Bool.false_and]
    simp only [Bool.not_true, Bool.false_and] at h
    by_cases c0 : St < 1
    · rw [if_pos c0]; exact h
    rw [if_neg c0]
    by_cases c1 : St > 6
    · rw [if_pos c1]; exact h
    rw [if_neg c1]
    by_cases c2 : Sy < 2
    · rw [if_pos c2]; exact h
    rw [if_neg c2]
    by_cases c3 : Sy > 4
    · rw [if_pos c3]; exact h
    · exact absurd ⟨by omega, by omega, by omega, by omega⟩ c

theorem rv_row (St Sy : Int) (rules : List (List S37)) (j : Nat) (hj : j < rules.length) (B : Bool) (hS : ((rules[j].length : Nat) : Int) = Sy) (hr : rules[j].length ≤ 100000000000000) (hB : Ev (fun k => standstillref01_Valid.l0 k (wrap64 ((j : Int) + 1)) St Sy rules) B) : ∀ (d i : Nat), i + d = rules[j].length →
    Ev (fun k => standstillref01_Valid.l1 k (j : Int) (i : Int) St Sy rules) ((rules[j].drop i).all (okRb St Sy) && B) := by
  intro d
  induction d with
  | zero =>
    intro i hi
    rw [Ev_succ]
    simp only [standstillref01_Valid.l1, Ev_ite, Ev_some, Ev_none]
    rw [if_neg (by omega), List.drop_eq_nil_of_le (by omega)]
    simpa using hB
  | succ d ih =>
    intro i hi
    have hlt : i < rules[j].length := by omega
    have ih := ih (i + 1) (by omega)
    rw [drop_cons rules[j] i hlt, List.all_cons, Ev_succ]
    simp only [standstillref01_Valid.l1, Ev_ite, Ev_some, Ev_none]
    rw [if_pos (by omega), if_pos (by omega), if_pos (by omega), if_pos (by omega), rdL rules j hj, if_pos (by omega), rdT rules[j] i hlt, wrapn i (by omega)]
    generalize rules[j][i] = x
    obtain ⟨f0, f1, f2⟩ := x
    simp only
    by_cases hok : okR St Sy ⟨f0, f1, f2⟩
    · rw [okRb, decide_eq_true hok, Bool.true_and]
      obtain ⟨h0, h1, h2, h3, h4⟩ := hok
      simp only at h0 h1 h2 h3 h4
      rw [if_neg (by omega), if_neg (by omega)]
      rcases h2 with h2 | h2
      · rw [if_pos h2, if_neg (by omega), if_neg (by omega)]
        exact ih
      · rw [if_neg (by omega), if_pos h2, if_neg (by omega), if_neg (by omega)]
        exact ih
    · rw [okRb, decide_eq_false hok, Bool.false_and, Bool.false_and]
      simp only [okR] at hok
      by_cases c0 : f0 < 0
      · rw [if_pos c0]
      rw [if_neg c0]
      by_cases c1 : f0 ≥ Sy
      · rw [if_pos c1]
      rw [if_neg c1]
      by_cases c2 : f1 = -1
      · rw [if_pos c2]
        by_cases c3 : f2 < -1
        · rw [if_pos c3]
        rw [if_neg c3]
        by_cases c4 : f2 ≥ St
        · rw [if_pos c4]
        · exact absurd ⟨by omega, by omega, .inl c2, by omega, by omega⟩ hok
      rw [if_neg c2]
      by_cases c5 : f1 = 1
      · rw [if_pos c5]
        by_cases c3 : f2 < -1
        · rw [if_pos c3]
        rw [if_neg c3]
        by_cases c4 : f2 ≥ St
        · rw [if_pos c4]
        · exact absurd ⟨by omega, by omega, .inr c5, by omega, by omega⟩ hok
      · rw [if_neg c5]
theorem rv_rows (St Sy : Int) (rules : List (List S37)) (hSt : (rules.length : Int) = St) (hl : rules.length ≤ 100000000000000) (hr : ∀ r ∈ rules, r.length ≤ 100000000000000) : ∀ (d j : Nat), j + d = rules.length →
    Ev (fun k => standstillref01_Valid.l0 k (j : Int) St Sy rules) ((rules.drop j).all (okRow St Sy)) := by
  intro d
  induction d with
  | zero =>
    intro j hj
    rw [Ev_succ]
    simp only [standstillref01_Valid.l0, Ev_ite, Ev_some, Ev_none]
    rw [if_neg (by omega), List.drop_eq_nil_of_le (by omega)]
    rfl
  | succ d ih =>
    intro j hj
    have hlt : j < rules.length := by omega
    have ih := ih (j + 1) (by omega)
    rw [drop_cons rules j hlt, List.all_cons, Ev_succ]
    simp only [standstillref01_Valid.l0, Ev_ite, Ev_some, Ev_none]
    rw [if_pos (by omega), if_pos (by omega), if_pos (by omega), rdL rules j hlt]
    by_cases c : ((rules[j].length : Nat) : Int) = Sy
    · rw [if_pos c, okRow, decide_eq_true c, Bool.true_and]
      have := rv_row St Sy rules j hlt _ c (hr _ (List.getElem_mem hlt)) (by rw [wrapn j (by omega)]; exact ih) rules[j].length 0 (by omega)
      simpa using this
    · rw [if_neg c, okRow, decide_eq_false c]
      rfl
theorem rv_f (St Sy : Int) (rules : List (List S37)) (hl : rules.length ≤ 100000000000000) (hr : ∀ r ∈ rules, r.length ≤ 100000000000000) : Ev (fun k => standstillref01_Valid.f k St Sy rules) (okM St Sy rules) := by
  have hj0 : Ev (fun k => standstillref01_Valid.j0 k true St Sy rules) false := by
    rw [Ev_succ]
    simp [standstillref01_Valid.j0, Ev_ite, Ev_some]
  unfold standstillref01_Valid.f okM
  simp only [Ev_ite]
  by_cases c : 1 ≤ St ∧ St ≤ 6 ∧ 2 ≤ Sy ∧ Sy ≤ 4
  · rw [if_neg (by omega), if_neg (by omega), if_neg (by omega), if_neg (by omega)]
    by_cases e : (rules.length : Int) = St
    · rw [decide_eq_true ⟨c.1, c.2.1, c.2.2.1, c.2.2.2, e⟩, show ((rules.length : Int) != St) = false by simp [e], Ev_succ]
      simp only [standstillref01_Valid.j0, Ev_ite, Ev_some]
      rw [if_neg (by simp)]
      have := rv_rows St Sy rules e hl hr rules.length 0 (by omega)
      simpa using this
    · rw [decide_eq_false (fun h => e h.2.2.2.2), show ((rules.length : Int) != St) = true by simp [e]]
      exact hj0
  · rw [decide_eq_false (fun h => c ⟨h.1, h.2.1, h.2.2.1, h.2.2.2.1⟩), Bool.false_and]
    by_cases c0 : St < 1
    · rw [if_pos c0]; exact hj0
    rw [if_neg c0]
    by_cases c1 : St > 6
    · rw [if_pos c1]; exact hj0
    rw [if_neg c1]
    by_cases c2 : Sy < 2
    · rw [if_pos c2]; exact hj0
    rw [if_neg c2]
    by_cases c3 : Sy > 4
    · rw [if_pos c3]; exact hj0
    · exact absurd ⟨by omega, by omega, by omega, by omega⟩ c

/-- The mirrored machine. -/
theorem okM_len {St Sy : Int} {rules : List (List S37)} (h : okM St Sy rules = true) : 1 ≤ St ∧ St ≤ 6 ∧ 2 ≤ Sy ∧ Sy ≤ 4 ∧ (rules.length : Int) = St ∧ ∀ r ∈ rules, (r.length : Int) = Sy ∧ ∀ x ∈ r, okR St Sy x := by
  unfold okM at h
  simp only [Bool.and_eq_true, decide_eq_true_eq, List.all_eq_true] at h
  refine ⟨h.1.1, h.1.2.1, h.1.2.2.1, h.1.2.2.2.1, h.1.2.2.2.2, fun r hr => ?_⟩
  have := h.2 r hr
  simp only [okRow, okRb, Bool.and_eq_true, decide_eq_true_eq, List.all_eq_true] at this
  exact this

/-! Lists of runs: what is valid, exactly. -/
theorem rd75 (l : List S75) (i : Nat) (h : i < l.length) : rd_T75 l (i : Int) = l[i] := by
  simp [rd_T75, List.getD, h]
def runB (Sy : Int) (r : S75) : Bool := decide (0 ≤ r.f0 ∧ r.f0 < Sy ∧ 1 ≤ r.f1 ∧ r.f1 ≤ 1152921504606846976)
def rowB (Sy : Int) : Option Int → List S75 → Bool
  | _, [] => true
  | p, r :: l => runB Sy r && (!decide (p = some r.f0) && rowB Sy (some r.f0) l)
def prevS (l : List S75) (i : Nat) : Option Int := if i = 0 then none else some (rd_T75 l ((i - 1 : Nat) : Int)).f0
def lastB (l : List S75) : Bool := decide (l.length = 0) || !decide ((rd_T75 l ((l.length - 1 : Nat) : Int)).f0 = 0)
def sideB (Sy : Int) (l : List S75) : Bool := decide (l.length ≤ 2000) && (lastB l && rowB Sy none l)
theorem runB_true {Sy : Int} {r : S75} (h : runB Sy r = true) : 0 ≤ r.f0 ∧ r.f0 < Sy ∧ 1 ≤ r.f1 ∧ r.f1 ≤ 1152921504606846976 := of_decide_eq_true h
theorem rowB_mem {Sy : Int} : ∀ (l : List S75) (p : Option Int), rowB Sy p l = true → ∀ r ∈ l, runB Sy r = true := by
  intro l
  induction l with
  | nil => intro p _ r hr; cases hr
  | cons a l ih =>
    intro p h r hr
    simp only [rowB, Bool.and_eq_true] at h
    cases hr with
    | head => exact h.1
    | tail _ hr => exact ih _ h.2.2 r hr
/-- One step of either loop: what is asked of the run at i. -/
theorem row_step {α : Type} (Sy : Int) (l : List S75) (i : Nat) (hi : i < l.length) (hl : l.length ≤ 10000000000000) :
    rowB Sy (prevS l i) (l.drop i) = (runB Sy l[i] && (!decide (prevS l i = some l[i].f0) && rowB Sy (prevS l (i + 1)) (l.drop (i + 1)))) := by
  rw [drop_cons l i hi, rowB]
  have : prevS l (i + 1) = some l[i].f0 := by
    rw [prevS, if_neg (by omega), show i + 1 - 1 = i by omega, rd75 l i hi]
  rw [this]
theorem prevS_succ (l : List S75) (i : Nat) (hi : i < l.length) (h0 : 0 < i) : prevS l i = some (l[i - 1]'(by omega)).f0 := by
  rw [prevS, if_neg (by omega), rd75 l (i - 1) (by omega)]
theorem side_l0 (Sy : Int) (l : List S75) (hl : l.length ≤ 10000000000000) : ∀ (d i : Nat), i + d = l.length → Ev (fun k => leap_side.l0 k Sy l l (l.length : Int) (i : Int)) (rowB Sy (prevS l i) (l.drop i)) := by
  intro d
  induction d with
  | zero =>
    intro i hi
    rw [Ev_succ, List.drop_eq_nil_of_le (by omega)]
    simp only [leap_side.l0, Ev_ite, Ev_none]
    rw [if_neg (by omega)]
    exact Ev.now _
  | succ d ih =>
    intro i hi
    have hlt : i < l.length := by omega
    have ih := ih (i + 1) (by omega)
    rw [row_step (α := Unit) Sy l i hlt hl, Ev_succ]
    simp only [leap_side.l0, Ev_ite, Ev_none, Ev_some]
    rw [if_pos (by omega), if_pos (by omega), if_pos (by omega), rd75 l i hlt, wrapn i (by omega)]
    by_cases c : 0 ≤ l[i].f0 ∧ l[i].f0 < Sy ∧ 1 ≤ l[i].f1 ∧ l[i].f1 ≤ 1152921504606846976
    · rw [runB, decide_eq_true c, Bool.true_and, if_neg (by omega), if_neg (by omega), if_neg (by omega), if_neg (by omega)]
      by_cases c4 : (i : Int) > 0
      · have e : wrap64 ((i : Int) - 1) = ((i - 1 : Nat) : Int) := by rw [wrap_id (by omega) (by omega)]; omega
        rw [if_pos c4, e, if_pos (by omega), if_pos (by omega), rd75 l (i - 1) (by omega), prevS_succ l i hlt (by omega)]
        by_cases c5 : (l[i - 1]'(by omega)).f0 = l[i].f0
        · rw [if_pos c5, decide_eq_true (by rw [c5])]
          rfl
        · rw [if_neg c5, decide_eq_false (fun h => c5 (Option.some.inj h))]
          exact ih
      · rw [if_neg c4]
        have : prevS l i = none := by rw [prevS, if_pos (by omega)]
        rw [this, decide_eq_false (by simp)]
        exact ih
    · rw [runB, decide_eq_false c, Bool.false_and]
      repeat' split
      all_goals first | rfl | (exfalso; omega)
theorem list_l0 (Sy : Int) (l : List S75) (hl : l.length ≤ 10000000000000) : ∀ (d i : Nat), i + d = l.length → Ev (fun k => standstillref04_list.l0 k l Sy (i : Int)) (rowB Sy (prevS l i) (l.drop i) && lastB l) := by
  intro d
  induction d with
  | zero =>
    intro i hi
    rw [Ev_succ, List.drop_eq_nil_of_le (by omega)]
    simp only [standstillref04_list.l0, Ev_ite, Ev_none, Ev_some, rowB, Bool.true_and]
    rw [if_neg (by omega), lastB]
    by_cases c : l.length = 0
    · rw [if_pos (by omega), decide_eq_true c, Bool.true_or]
    · have e : wrap64 ((l.length : Int) - 1) = ((l.length - 1 : Nat) : Int) := by rw [wrap_id (by omega) (by omega)]; omega
      rw [if_neg (by omega), e, if_pos (by omega), if_pos (by omega), decide_eq_false c, Bool.false_or]
      rfl
  | succ d ih =>
    intro i hi
    have hlt : i < l.length := by omega
    have ih := ih (i + 1) (by omega)
    rw [row_step (α := Unit) Sy l i hlt hl, Ev_succ]
    simp only [standstillref04_list.l0, Ev_ite, Ev_none, Ev_some]
    rw [if_pos (by omega), if_pos (by omega), rd75 l i hlt, wrapn i (by omega)]
    by_cases c : 0 ≤ l[i].f0 ∧ l[i].f0 < Sy ∧ 1 ≤ l[i].f1 ∧ l[i].f1 ≤ 1152921504606846976
    · rw [runB, decide_eq_true c, Bool.true_and, if_neg (by omega), if_neg (by omega), if_neg (by omega), if_neg (by omega)]
      by_cases c4 : (i : Int) > 0
      · have e : wrap64 ((i : Int) - 1) = ((i - 1 : Nat) : Int) := by rw [wrap_id (by omega) (by omega)]; omega
        rw [if_pos c4, e, if_pos (by omega), if_pos (by omega), rd75 l (i - 1) (by omega), prevS_succ l i hlt (by omega)]
        by_cases c5 : l[i].f0 = (l[i - 1]'(by omega)).f0
        · rw [if_pos c5, decide_eq_true (by rw [c5])]
          rfl
        · rw [if_neg c5, decide_eq_false (fun h => c5 (Option.some.inj h).symm)]
          exact ih
      · rw [if_neg c4]
        have : prevS l i = none := by rw [prevS, if_pos (by omega)]
        rw [this, decide_eq_false (by simp)]
        exact ih
    · rw [runB, decide_eq_false c, Bool.false_and, Bool.false_and]
      repeat' split
      all_goals first | rfl | (exfalso; omega)
theorem side_ev (Sy : Int) (l : List S75) (hl : l.length ≤ 10000000000000) : Ev (fun k => leap_side.f k Sy l) (sideB Sy l) := by
  have hb := side_l0 Sy l hl l.length 0 (by omega)
  have h0 : prevS l 0 = none := by rw [prevS, if_pos rfl]
  rw [h0, List.drop_zero] at hb
  have hj1 : Ev (fun k => leap_side.j0 k Sy l true) false := by
    rw [Ev_succ]
    simp [leap_side.j0, Ev_some]
  have hj0 : Ev (fun k => leap_side.j0 k Sy l false) (rowB Sy none l) := by
    rw [Ev_succ]
    simp only [leap_side.j0, Ev_ite, Ev_some]
    simpa using hb
  unfold sideB lastB
  by_cases c : (l.length : Int) > 2000
  · rw [decide_eq_false (by omega), Bool.false_and]
    simp only [leap_side.f, Ev_ite, Ev_none]
    rw [if_pos c]
    exact hj1
  rw [decide_eq_true (by omega), Bool.true_and]
  by_cases c1 : (l.length : Int) > 0
  · have e : wrap64 ((l.length : Int) - 1) = ((l.length - 1 : Nat) : Int) := by rw [wrap_id (by omega) (by omega)]; omega
    rw [decide_eq_false (by omega), Bool.false_or]
    simp only [leap_side.f, Ev_ite, Ev_none]
    rw [if_neg c, if_pos c1, e, if_pos (by omega), if_pos (by omega)]
    by_cases hz : (rd_T75 l ((l.length - 1 : Nat) : Int)).f0 = 0
    · rw [decide_eq_true hz, Bool.not_true, Bool.false_and, beq_iff_eq.2 hz]
      exact hj1
    · rw [decide_eq_false hz, Bool.not_false, Bool.true_and, beq_eq_false_iff_ne.2 hz]
      exact hj0
  · rw [decide_eq_true (by omega), Bool.true_or, Bool.true_and]
    simp only [leap_side.f, Ev_ite, Ev_none]
    rw [if_neg c, if_neg c1]
    exact hj0
theorem list_ev (Sy : Int) (l : List S75) (hl : l.length ≤ 10000000000000) : Ev (fun k => standstillref04_list.f k l Sy) (sideB Sy l) := by
  have hb := list_l0 Sy l hl l.length 0 (by omega)
  have h0 : prevS l 0 = none := by rw [prevS, if_pos rfl]
  rw [h0, List.drop_zero] at hb
  unfold sideB
  simp only [standstillref04_list.f, Ev_ite, Ev_some]
  by_cases c : (l.length : Int) > 2000
  · rw [decide_eq_false (by omega), Bool.false_and, if_pos c]
  · rw [decide_eq_true (by omega), Bool.true_and, if_neg c, Bool.and_comm]
    exact hb
def fitsB (St Sy st po sy : Int) (lf rt : List S75) : Bool := decide (-1 ≤ st ∧ st < St ∧ 0 ≤ sy ∧ sy < Sy ∧ -1152921504606846976 ≤ po ∧ po ≤ 1152921504606846976) && (sideB Sy lf && sideB Sy rt)
theorem fits_ev (St Sy st po sy : Int) (lf rt : List S75) (hl : lf.length ≤ 10000000000000) (hr : rt.length ≤ 10000000000000) : Ev (fun k => leap_fits.f k St Sy st po sy lf rt) (fitsB St Sy st po sy lf rt) := by
  have jt : Ev (fun k => leap_fits.j0 k Sy true st po sy lf rt) false := by
    rw [Ev_succ]
    simp [leap_fits.j0, Ev_some]
  have jf : Ev (fun k => leap_fits.j0 k Sy false st po sy lf rt) (sideB Sy lf && sideB Sy rt) := by
    rw [Ev_succ]
    simp only [leap_fits.j0, Ev_ite, Bool.false_eq_true, if_false]
    rw [Ev_bind (side_ev Sy lf hl)]
    simp only [Ev_ite, Ev_some]
    cases sideB Sy lf with
    | true => simp only [if_true]; rw [Ev_bind (side_ev Sy rt hr), Ev_some]; simp
    | false => simp
  simp only [leap_fits.f, Ev_ite, fitsB]
  by_cases c : -1 ≤ st ∧ st < St ∧ 0 ≤ sy ∧ sy < Sy ∧ -1152921504606846976 ≤ po ∧ po ≤ 1152921504606846976
  · rw [decide_eq_true c, Bool.true_and, if_neg (by omega), if_neg (by omega), if_neg (by omega), if_neg (by omega), if_neg (by omega), decide_eq_false (by omega)]
    exact jf
  · rw [decide_eq_false c, Bool.false_and]
    repeat' split
    all_goals first | exact jt | (rw [decide_eq_true (by omega)]; exact jt)
theorem Within_ev (St Sy st po sy : Int) (lf rt : List S75) (hl : lf.length ≤ 10000000000000) (hr : rt.length ≤ 10000000000000) : Ev (fun k => standstillref04_Within.f k st po sy lf rt St Sy) (fitsB St Sy st po sy lf rt) := by
  simp only [standstillref04_Within.f, Ev_ite, fitsB, Ev_some]
  by_cases c : -1 ≤ st ∧ st < St ∧ 0 ≤ sy ∧ sy < Sy ∧ -1152921504606846976 ≤ po ∧ po ≤ 1152921504606846976
  · rw [decide_eq_true c, Bool.true_and, if_pos (by omega), if_pos (by omega), if_pos (by omega), if_pos (by omega), if_pos (by omega), if_pos (by omega), Ev_bind (list_ev Sy lf hl)]
    simp only [Ev_ite, Ev_some]
    cases sideB Sy lf with
    | true => simp only [if_true]; rw [Ev_bind (list_ev Sy rt hr), Ev_some]; simp
    | false => simp
  · rw [decide_eq_false c, Bool.false_and]
    repeat' split
    all_goals first | rfl | (exfalso; omega)
def fitB (St Sy : Int) (rules : List (List S37)) (st po sy : Int) (lf rt : List S75) : Bool := okM St Sy rules && fitsB St Sy st po sy lf rt
theorem Fits_ev (St Sy : Int) (rules : List (List S37)) (st po sy : Int) (lf rt : List S75) (hm : rules.length ≤ 100000000000000) (hm2 : ∀ r ∈ rules, r.length ≤ 100000000000000) (hl : lf.length ≤ 10000000000000) (hr : rt.length ≤ 10000000000000) : Ev (fun k => leap_Fits.f k St Sy rules st po sy lf rt) (fitB St Sy rules st po sy lf rt) := by
  simp only [leap_Fits.f, fitB]
  rw [Ev_bind (tv_f St Sy rules hm hm2)]
  simp only [Ev_ite, Ev_some]
  cases okM St Sy rules with
  | true => simp only [if_true]; rw [Ev_bind (fits_ev St Sy st po sy lf rt hl hr), Ev_some]; simp
  | false => simp
theorem rFits_ev (St Sy : Int) (rules : List (List S37)) (st po sy : Int) (lf rt : List S75) (hm : rules.length ≤ 100000000000000) (hm2 : ∀ r ∈ rules, r.length ≤ 100000000000000) (hl : lf.length ≤ 10000000000000) (hr : rt.length ≤ 10000000000000) : Ev (fun k => standstillref04_Fits.f k St Sy rules st po sy lf rt) (fitB St Sy rules st po sy lf rt) := by
  simp only [standstillref04_Fits.f, fitB]
  rw [Ev_bind (rv_f St Sy rules hm hm2)]
  simp only [Ev_ite, Ev_some]
  cases okM St Sy rules with
  | true => simp only [if_true]; rw [Ev_bind (Within_ev St Sy st po sy lf rt hl hr), Ev_some]; simp
  | false => simp
theorem sideB_true {Sy : Int} {l : List S75} (h : sideB Sy l = true) : l.length ≤ 2000 ∧ lastB l = true ∧ rowB Sy none l = true := by
  simpa [sideB] using h
theorem fitsB_true {St Sy st po sy : Int} {lf rt : List S75} (h : fitsB St Sy st po sy lf rt = true) : (-1 ≤ st ∧ st < St ∧ 0 ≤ sy ∧ sy < Sy ∧ -1152921504606846976 ≤ po ∧ po ≤ 1152921504606846976) ∧ sideB Sy lf = true ∧ sideB Sy rt = true := by
  simp only [fitsB, Bool.and_eq_true, decide_eq_true_eq] at h
  exact h

/-! A leap, in plain words. -/
def bef (x c : Int) : List S75 → List S75
  | [] => if c = 0 then [] else if x = 0 then [] else [⟨x, c⟩]
  | r :: t => if c = 0 then r :: t else if r.f0 = x then ⟨r.f0, r.f1 + c⟩ :: t else ⟨x, c⟩ :: r :: t
def spl : List S75 → Int × List S75
  | [] => (0, [])
  | r :: t => if r.f1 = 1 then (r.f0, t) else (r.f0, ⟨r.f0, r.f1 - 1⟩ :: t)
theorem rd75_0 (r : S75) (t : List S75) : rd_T75 (r :: t) 0 = r := rfl
theorem bef_eq (x c : Int) (l : List S75) (hl : l.length ≤ 3000) (hr : ∀ r ∈ l, 1 ≤ r.f1 ∧ r.f1 ≤ 1152921504606846976) (h0 : 0 ≤ c) (h1 : c ≤ 2305843009213693952) : leap_before.g x c l = some (bef x c l) := by
  unfold leap_before.g
  rw [if_pos (by omega)]
  cases l with
  | nil =>
    simp only [bef, List.length_nil]
    by_cases c0 : c = 0
    · rw [if_pos c0, if_pos c0]
    · rw [if_neg c0, if_neg c0]
      by_cases c1 : x = 0
      · rw [if_pos ⟨c1, rfl⟩, if_pos c1]
      · rw [if_neg (fun h => c1 h.1), if_neg c1, if_neg (by omega)]
  | cons r t =>
    have hm := hr r (List.mem_cons_self)
    simp only [bef, List.length_cons, List.set_cons_zero]
    by_cases c0 : c = 0
    · rw [if_pos c0, if_pos c0]
    · rw [if_neg c0, if_neg c0, if_neg (fun h => by have := h.2; omega), if_pos (by omega)]
      by_cases c1 : r.f0 = x
      · rw [if_pos (show (rd_T75 (r :: t) 0).f0 = x from c1), if_pos c1, rd75_0, wrap_id (by omega) (by omega)]
      · rw [if_neg (show ¬ (rd_T75 (r :: t) 0).f0 = x from c1), if_neg c1]
theorem spl_eq (l : List S75) (hl : l.length ≤ 3000) (hr : ∀ r ∈ l, 1 ≤ r.f1 ∧ r.f1 ≤ 1152921504606846976) : leap_split.g l = some (spl l) := by
  unfold leap_split.g
  rw [if_pos (by omega)]
  cases l with
  | nil => rfl
  | cons r t =>
    have hm := hr r (List.mem_cons_self)
    simp only [spl, rd75_0, List.length_cons, List.set_cons_zero, List.drop_one, List.tail_cons]
    rw [if_neg (by omega)]
    by_cases c1 : r.f1 = 1
    · rw [if_pos c1, if_pos c1]
    · rw [if_neg c1, if_neg c1, wrap_id (by omega) (by omega)]
theorem bef_len (x c : Int) (l : List S75) : (bef x c l).length ≤ l.length + 1 := by
  cases l with
  | nil => simp only [bef]; repeat' split
           all_goals simp
  | cons r t => simp only [bef]; repeat' split
                all_goals simp
theorem spl_len (l : List S75) : (spl l).2.length ≤ l.length := by
  cases l with
  | nil => simp [spl]
  | cons r t => simp only [spl]; split <;> simp
/-- What lies ahead: how many steps, and what is left of it. -/
def ahd (nx st sy : Int) : List S75 → Option (Int × List S75)
  | [] => if nx = st then (if sy = 0 then none else some (1, [])) else some (1, [])
  | r :: t => if nx = st ∧ r.f0 = sy then some (1 + r.f1, t) else some (1, r :: t)
theorem ahd_eq (nx st sy : Int) (l : List S75) (hr : ∀ r ∈ l, 1 ≤ r.f1 ∧ r.f1 ≤ 1152921504606846976) : leap_ahead nx st sy l = ahd nx st sy l := by
  unfold leap_ahead
  cases l with
  | nil =>
    simp only [ahd, List.length_nil]
    by_cases c : nx = st
    · rw [if_pos c, if_pos c]
      by_cases c1 : sy = 0
      · rw [if_pos ⟨rfl, c1⟩, if_pos c1]
      · rw [if_neg (fun h => c1 h.2), if_neg c1, if_neg (fun h => by have := h.1; omega)]
    · rw [if_neg c, if_neg c]
  | cons r t =>
    have hm := hr r (List.mem_cons_self)
    simp only [ahd, rd75_0, List.length_cons, List.drop_one, List.tail_cons]
    by_cases c : nx = st
    · rw [if_pos c, if_neg (fun h => by have := h.1; omega)]
      by_cases c1 : r.f0 = sy
      · rw [if_pos ⟨by omega, c1⟩, if_pos ⟨c, c1⟩, wrap_id (by omega) (by omega)]
      · rw [if_neg (fun h => c1 h.2), if_neg (fun h => c1 h.2)]
    · rw [if_neg c, if_neg (fun h => c h.1)]
theorem ahd_some {nx st sy : Int} {l a : List S75} {k : Int} (hr : ∀ r ∈ l, 1 ≤ r.f1 ∧ r.f1 ≤ 1152921504606846976) (h : ahd nx st sy l = some (k, a)) : 1 ≤ k ∧ k ≤ 1152921504606846977 ∧ a.length ≤ l.length ∧ ∀ r ∈ a, r ∈ l := by
  cases l with
  | nil =>
    simp only [ahd] at h
    repeat' split at h
    all_goals first | (cases h; done) | (simp only [Option.some.injEq, Prod.mk.injEq] at h; obtain ⟨rfl, rfl⟩ := h; exact ⟨by omega, by omega, by simp, fun r hr => hr⟩)
  | cons r t =>
    have hm := hr r (List.mem_cons_self)
    simp only [ahd] at h
    split at h
    · simp only [Option.some.injEq, Prod.mk.injEq] at h
      obtain ⟨rfl, rfl⟩ := h
      exact ⟨by omega, by omega, by simp, fun r hr => List.mem_cons_of_mem _ hr⟩
    · simp only [Option.some.injEq, Prod.mk.injEq] at h
      obtain ⟨rfl, rfl⟩ := h
      exact ⟨by omega, by omega, by simp, fun r hr => hr⟩
theorem side_runs {Sy : Int} {l : List S75} (h : sideB Sy l = true) : l.length ≤ 2000 ∧ ∀ r ∈ l, 1 ≤ r.f1 ∧ r.f1 ≤ 1152921504606846976 := by
  obtain ⟨h1, h2, h3⟩ := sideB_true h
  refine ⟨h1, fun r hr => ?_⟩
  have := runB_true (rowB_mem l none h3 r hr)
  exact ⟨this.2.2.1, this.2.2.2⟩
theorem rule_ok {St Sy : Int} {rules : List (List S37)} (h : okM St Sy rules = true) (st sy : Int) (h0 : 0 ≤ st) (h1 : st < St) (h2 : 0 ≤ sy) (h3 : sy < Sy) :
    st < (rules.length : Int) ∧ sy < ((rd_L2 rules st).length : Int) ∧ okR St Sy (rd_T37 (rd_L2 rules st) sy) := by
  obtain ⟨a1, a2, a3, a4, a5, a6⟩ := okM_len h
  obtain ⟨s, rfl⟩ := Int.eq_ofNat_of_zero_le h0
  obtain ⟨y, rfl⟩ := Int.eq_ofNat_of_zero_le h2
  have hs : s < rules.length := by omega
  rw [rdL rules s hs]
  obtain ⟨b1, b2⟩ := a6 _ (List.getElem_mem hs)
  have hy : y < rules[s].length := by omega
  rw [rdT _ y hy]
  exact ⟨by omega, by omega, b2 _ (List.getElem_mem hy)⟩
abbrev Tp := Int × Int × Int × List S75 × List S75
def outT (r : S37) (po k : Int) (b : List S75) (s : Int × List S75) : Tp := (r.f2, po + r.f1 * k, s.1, if r.f1 < 0 then s.2 else b, if r.f1 < 0 then b else s.2)
def stepT (r : S37) (st po sy : Int) (lf rt : List S75) : Option (Int × Tp) := (ahd r.f2 st sy (if r.f1 < 0 then lf else rt)).map fun ka => (ka.1, outT r po ka.1 (bef r.f0 ka.1 (if r.f1 < 0 then rt else lf)) (spl ka.2))
theorem leap_eq {St Sy : Int} {rules : List (List S37)} (h : okM St Sy rules = true) {st po sy : Int} {lf rt : List S75} (h0 : 0 ≤ st) (hf : fitsB St Sy st po sy lf rt = true) :
    leap_leap.g rules st po sy lf rt = match stepT (rd_T37 (rd_L2 rules st) sy) st po sy lf rt with | none => some (st, po, sy, lf, rt, 0, true) | some (k, o) => some (o.1, o.2.1, o.2.2.1, o.2.2.2.1, o.2.2.2.2, k, false) := by
  obtain ⟨⟨t1, t2, t3, t4, t5, t6⟩, t7, t8⟩ := fitsB_true hf
  obtain ⟨l1, l2⟩ := side_runs t7
  obtain ⟨r1, r2⟩ := side_runs t8
  obtain ⟨q1, q2, q3⟩ := rule_ok h st sy h0 t2 t3 t4
  unfold leap_leap.g stepT
  rw [if_pos ⟨h0, q1, t3, q2, by omega, by omega⟩]
  generalize rd_T37 (rd_L2 rules st) sy = r at q3 ⊢
  obtain ⟨f0, f1, f2⟩ := r
  obtain ⟨p1, p2, p3, p4, p5⟩ := q3
  simp only at p1 p2 p3 p4 p5 ⊢
  have main : ∀ (ah bh : List S75), ah.length ≤ 2000 → bh.length ≤ 2000 → (∀ r ∈ ah, 1 ≤ r.f1 ∧ r.f1 ≤ 1152921504606846976) → (∀ r ∈ bh, 1 ≤ r.f1 ∧ r.f1 ≤ 1152921504606846976) → ∀ (F G : List S75 → List S75 → List S75),
      (match leap_ahead f2 st sy ah with | none => some (st, po, sy, lf, rt, (0 : Int), true) | some (k, a) => (leap_before.g f0 k bh).bind fun b => (leap_split.g a).bind fun s => if b.length < 8000000000000 ∧ s.2.length < 8000000000000 then some (f2, wrap64 (po + wrap64 (f1 * k)), s.1, F s.2 b, G s.2 b, k, false) else none) =
      match ((ahd f2 st sy ah).map fun ka => (ka.1, ((f2, po + f1 * ka.1, (spl ka.2).1, F (spl ka.2).2 (bef f0 ka.1 bh), G (spl ka.2).2 (bef f0 ka.1 bh)) : Tp))) with | none => some (st, po, sy, lf, rt, 0, true) | some (k, o) => some (o.1, o.2.1, o.2.2.1, o.2.2.2.1, o.2.2.2.2, k, false) := by
    intro ah bh a1 b1 a2 b2 F G
    rw [ahd_eq f2 st sy ah a2]
    cases e : ahd f2 st sy ah with
    | none => rfl
    | some z =>
      obtain ⟨k, a⟩ := z
      obtain ⟨e1, e2, e3, e4⟩ := ahd_some a2 e
      simp only [Option.map_some]
      rw [bef_eq f0 k bh (by omega) b2 (by omega) (by omega), spl_eq a (by omega) (fun r hr => a2 r (e4 r hr))]
      have n1 := bef_len f0 k bh
      have n2 := spl_len a
      simp only [Option.bind_some]
      rw [if_pos ⟨by omega, by omega⟩]
      have w1 : wrap64 (f1 * k) = f1 * k := by rcases p3 with rfl | rfl <;> exact wrap_id (by omega) (by omega)
      have w2 : wrap64 (po + f1 * k) = po + f1 * k := by rcases p3 with rfl | rfl <;> exact wrap_id (by omega) (by omega)
      rw [w1, w2]
  unfold outT
  by_cases c : f1 < 0
  · simp only [if_pos c]
    exact main lf rt l1 r1 l2 r2 (fun s _ => s) (fun _ b => b)
  · simp only [if_neg c]
    exact main rt lf r1 l1 r2 l2 (fun _ b => b) (fun s _ => s)
/-- What Leap hands back for a valid tape that has not stopped. -/
def LeapR (St Sy : Int) (r : S37) (st po sy : Int) (lf rt : List S75) : Int × Int × Int × List S75 × List S75 × Int × Bool × Int :=
  match stepT r st po sy lf rt with
  | none => (st, po, sy, lf, rt, 0, true, 0)
  | some (k, o) => if fitsB St Sy o.1 o.2.1 o.2.2.1 o.2.2.2.1 o.2.2.2.2 = true then (o.1, o.2.1, o.2.2.1, o.2.2.2.1, o.2.2.2.2, k, false, 0) else (0, 0, 0, [], [], 0, false, 4)
theorem stepT_len {r : S37} {st po sy : Int} {lf rt : List S75} {k : Int} {o : Tp} (hl : ∀ r ∈ lf, 1 ≤ r.f1 ∧ r.f1 ≤ 1152921504606846976) (hr : ∀ r ∈ rt, 1 ≤ r.f1 ∧ r.f1 ≤ 1152921504606846976) (h : stepT r st po sy lf rt = some (k, o)) : 1 ≤ k ∧ o.2.2.2.1.length ≤ lf.length + rt.length + 1 ∧ o.2.2.2.2.length ≤ lf.length + rt.length + 1 := by
  unfold stepT at h
  by_cases c : r.f1 < 0
  · simp only [if_pos c] at h
    cases e : ahd r.f2 st sy lf with
    | none => rw [e] at h; cases h
    | some z =>
      obtain ⟨k', a⟩ := z
      rw [e] at h
      simp only [Option.map_some, Option.some.injEq, Prod.mk.injEq] at h
      obtain ⟨rfl, rfl⟩ := h
      obtain ⟨e1, e2, e3, e4⟩ := ahd_some hl e
      have n1 := bef_len r.f0 k' rt
      have n2 := spl_len a
      simp only [outT, if_pos c]
      exact ⟨e1, by omega, by omega⟩
  · simp only [if_neg c] at h
    cases e : ahd r.f2 st sy rt with
    | none => rw [e] at h; cases h
    | some z =>
      obtain ⟨k', a⟩ := z
      rw [e] at h
      simp only [Option.map_some, Option.some.injEq, Prod.mk.injEq] at h
      obtain ⟨rfl, rfl⟩ := h
      obtain ⟨e1, e2, e3, e4⟩ := ahd_some hr e
      have n1 := bef_len r.f0 k' lf
      have n2 := spl_len a
      simp only [outT, if_neg c]
      exact ⟨e1, by omega, by omega⟩
theorem Leap_ev {St Sy : Int} {rules : List (List S37)} {st po sy : Int} {lf rt : List S75} (hM : okM St Sy rules = true) (hf : fitsB St Sy st po sy lf rt = true) (hs : st ≠ -1) (hm : rules.length ≤ 100000000000000) (hm2 : ∀ r ∈ rules, r.length ≤ 100000000000000) : Ev (fun k => leap_Leap.f k St Sy rules st po sy lf rt) (LeapR St Sy (rd_T37 (rd_L2 rules st) sy) st po sy lf rt) := by
  have hf' := hf
  obtain ⟨⟨t1, t2, t3, t4, t5, t6⟩, t7, t8⟩ := fitsB_true hf
  obtain ⟨l1, l2⟩ := side_runs t7
  obtain ⟨r1, r2⟩ := side_runs t8
  have hF := Fits_ev St Sy rules st po sy lf rt hm hm2 (by omega) (by omega)
  rw [fitB, hM, hf, Bool.true_and] at hF
  unfold leap_Leap.f
  rw [Ev_bind hF]
  simp only [if_true, Ev_ite]
  rw [if_neg hs, leap_eq hM (by omega) hf]
  unfold LeapR
  cases e : stepT (rd_T37 (rd_L2 rules st) sy) st po sy lf rt with
  | none =>
    simp only [Option.bind_some, if_true, Ev_ite, Ev_some, Ev_none]
    rw [if_pos ⟨by omega, by omega⟩]
    trivial
  | some z =>
    obtain ⟨k, o⟩ := z
    obtain ⟨n0, n1, n2⟩ := stepT_len l2 r2 e
    simp only [Option.bind_some, Bool.false_eq_true, if_false]
    rw [Ev_bind (fits_ev St Sy o.1 o.2.1 o.2.2.1 o.2.2.2.1 o.2.2.2.2 (by omega) (by omega))]
    simp only [Ev_ite, Ev_some]
    split <;> rfl

/-! The run ahead grows. -/
theorem bef_bef (x k b : Int) (l : List S75) (hk : 1 ≤ k) (hb : 0 ≤ b) : bef x b (bef x k l) = bef x (k + b) l := by
  have hk0 : ¬ k = 0 := by omega
  have hkb : ¬ k + b = 0 := by omega
  cases l with
  | nil =>
    simp only [bef, if_neg hk0, if_neg hkb]
    by_cases c : x = 0
    · simp only [if_pos c, bef]
      split <;> rfl
    · simp only [if_neg c, bef]
      by_cases c1 : b = 0
      · rw [if_pos c1, c1, Int.add_zero]
      · rw [if_neg c1, if_pos trivial]
  | cons r t =>
    simp only [bef, if_neg hk0, if_neg hkb]
    by_cases c : r.f0 = x
    · simp only [if_pos c, bef]
      by_cases c1 : b = 0
      · rw [if_pos c1, c1, Int.add_zero]
      · rw [if_neg c1, Int.add_assoc]
    · simp only [if_neg c, bef]
      by_cases c1 : b = 0
      · rw [if_pos c1, c1, Int.add_zero]
      · rw [if_neg c1, if_pos trivial]
theorem Push_ev (x c : Int) (l : List S75) (hl : l.length ≤ 3000) (hr : ∀ r ∈ l, 1 ≤ r.f1 ∧ r.f1 ≤ 1152921504606846976) (h0 : 0 ≤ c) (h1 : c ≤ 2305843009213693952) : Ev (fun k => standstillref04_Push.f k l x c) (bef x c l) := by
  have hj : ∀ b, (b = true → bef x c l = l) → (b = false → c ≠ 0 ∧ ¬ (x = 0 ∧ l = [])) → Ev (fun k => standstillref04_Push.j0 k l x c b) (bef x c l) := by
    intro b hb1 hb0
    rw [Ev_succ]
    simp only [standstillref04_Push.j0, Ev_ite, Ev_some, Ev_none]
    cases b with
    | true => rw [if_pos rfl, hb1 rfl]
    | false =>
      obtain ⟨c0, c1⟩ := hb0 rfl
      rw [if_neg (by decide)]
      cases l with
      | nil =>
        simp only [List.length_nil, Option.bind_some, List.append_nil, Ev_ite, Ev_some, Ev_none, bef]
        rw [if_neg (by omega), if_pos (by simp), if_neg c0, if_neg (fun h => c1 ⟨h, rfl⟩)]
      | cons r t =>
        have hm := hr r (List.mem_cons_self)
        simp only [List.length_cons] at hl
        simp only [List.length_cons, Option.bind_some, Ev_ite, Ev_some, Ev_none, bef, List.length_nil, List.drop_one, List.tail_cons, List.cons_append, List.nil_append]
        rw [if_pos (by omega), if_pos (by omega)]
        by_cases c2 : r.f0 = x
        · rw [if_pos (show (rd_T75 (r :: t) 0).f0 = x from c2), if_pos (by omega), if_pos (by omega), if_neg c0, if_pos c2, rd75_0, wrap_id (by omega) (by omega), c2]
        · rw [if_neg (show ¬ (rd_T75 (r :: t) 0).f0 = x from c2), if_pos (by omega), if_neg c0, if_neg c2]
  simp only [standstillref04_Push.f, Ev_ite]
  by_cases c0 : c = 0
  · rw [if_pos c0]
    refine hj true (fun _ => ?_) (fun h => by cases h)
    cases l <;> simp [bef, c0]
  · rw [if_neg c0]
    by_cases c1 : x = 0
    · rw [if_pos c1]
      refine hj _ (fun h => ?_) (fun h => ⟨c0, fun h2 => ?_⟩)
      · cases l with
        | nil => simp [bef, c1]
        | cons r t => simp at h; omega
      · rw [h2.2] at h
        simp at h
    · rw [if_neg c1]
      exact hj false (fun h => by cases h) (fun _ => ⟨c0, fun h => c1 h.1⟩)
def lng (b : Int) : List S75 → List S75
  | [] => []
  | r :: t => ⟨r.f0, r.f1 + b⟩ :: t
theorem longer_eq (b : Int) (l : List S75) (hl : l.length ≤ 3000) (hr : ∀ r ∈ l, 1 ≤ r.f1 ∧ r.f1 ≤ 1152921504606846976) (h0 : 0 ≤ b) (h1 : b ≤ 2305843009213693952) : standstilllaw04_longer.f l b = some (lng b l) := by
  unfold standstilllaw04_longer.f
  simp only [Option.bind_some, List.length_nil, List.nil_append]
  rw [if_pos (by omega)]
  cases l with
  | nil => simp [lng]
  | cons r t =>
    have hm := hr r (List.mem_cons_self)
    simp only [List.length_cons, lng, rd75_0]
    rw [if_pos (by omega), if_pos (by omega), wrap_id (by omega) (by omega)]
    rfl
theorem lastB_head (a b : S75) (t : List S75) (h : a.f0 = b.f0) : lastB (a :: t) = lastB (b :: t) := by
  cases t with
  | nil =>
    have e1 : rd_T75 [a] ((([a] : List S75).length - 1 : Nat) : Int) = a := rfl
    have e2 : rd_T75 [b] ((([b] : List S75).length - 1 : Nat) : Int) = b := rfl
    unfold lastB
    rw [e1, e2, h]
    rfl
  | cons c t =>
    have e : rd_T75 (a :: c :: t) (((a :: c :: t).length - 1 : Nat) : Int) = rd_T75 (b :: c :: t) (((b :: c :: t).length - 1 : Nat) : Int) := by
      simp [rd_T75]
    unfold lastB
    rw [e]
    rfl
theorem side_lng {Sy b : Int} {l : List S75} (h : sideB Sy l = true) (hs : ∀ r ∈ l, r.f1 ≤ 36028797018963968) (h0 : 0 ≤ b) (h1 : b < 1125899906842624) : sideB Sy (lng b l) = true := by
  cases l with
  | nil => exact h
  | cons r t =>
    obtain ⟨a1, a2, a3⟩ := sideB_true h
    have hm := hs r (List.mem_cons_self)
    simp only [rowB, Bool.and_eq_true] at a3
    have hr := runB_true a3.1
    have hr' : runB Sy ⟨r.f0, r.f1 + b⟩ = true := decide_eq_true ⟨hr.1, hr.2.1, by simp only; omega, by simp only; omega⟩
    rw [lastB_head r ⟨r.f0, r.f1 + b⟩ t rfl] at a2
    show (decide ((⟨r.f0, r.f1 + b⟩ :: t : List S75).length ≤ 2000) && (lastB (⟨r.f0, r.f1 + b⟩ :: t) && rowB Sy none (⟨r.f0, r.f1 + b⟩ :: t))) = true
    simp only [Bool.and_eq_true, decide_eq_true_eq]
    exact ⟨a1, a2, by simp only [rowB, Bool.and_eq_true]; exact ⟨hr', a3.2.1, a3.2.2⟩⟩
theorem lng_runs {b : Int} {l : List S75} (hs : ∀ r ∈ l, 1 ≤ r.f1 ∧ r.f1 ≤ 36028797018963968) (h0 : 0 ≤ b) (h1 : b < 1125899906842624) : ∀ r ∈ lng b l, 1 ≤ r.f1 ∧ r.f1 ≤ 1152921504606846976 := by
  intro r hr
  cases l with
  | nil => cases hr
  | cons q t =>
    cases hr with
    | head => have := hs q (List.mem_cons_self); simp only; omega
    | tail _ h => have := hs r (List.mem_cons_of_mem _ h); omega
/-- One more stretch of the same: what both leaps see. -/
theorem ahd_lng (nx st sy b : Int) (l : List S75) : (ahd nx st sy (lng b l) = none ∧ ahd nx st sy l = none) ∨ (∃ a a', ahd nx st sy l = some (1, a) ∧ ahd nx st sy (lng b l) = some (1, a')) ∨ ∃ k a, ahd nx st sy l = some (k, a) ∧ ahd nx st sy (lng b l) = some (k + b, a) := by
  cases l with
  | nil =>
    simp only [lng, ahd]
    repeat' split
    · exact .inl ⟨rfl, rfl⟩
    · exact .inr (.inl ⟨_, _, rfl, rfl⟩)
    · exact .inr (.inl ⟨_, _, rfl, rfl⟩)
  | cons r t =>
    simp only [lng, ahd]
    split
    · exact .inr (.inr ⟨1 + r.f1, t, rfl, by rw [Int.add_assoc]⟩)
    · exact .inr (.inl ⟨_, _, rfl, rfl⟩)
theorem same_runs (l : List S75) (hl : l.length ≤ 100000) : Ev (fun k => standstillref04_SameRuns.f k l l) true := by
  have H : ∀ (d i : Nat), i + d = l.length → Ev (fun k => standstillref04_SameRuns.l0 k l l (i : Int)) true := by
    intro d
    induction d with
    | zero =>
      intro i hi
      rw [Ev_succ]
      simp only [standstillref04_SameRuns.l0, Ev_ite, Ev_none]
      rw [if_neg (by omega)]
      exact Ev.now _
    | succ d ih =>
      intro i hi
      have ih := ih (i + 1) (by omega)
      rw [Ev_succ]
      simp only [standstillref04_SameRuns.l0, Ev_ite, Ev_none]
      rw [if_pos (by omega), if_pos (by omega), if_pos (by omega), if_neg (by simp), wrapn i (by omega)]
      exact ih
  simp only [standstillref04_SameRuns.f, if_true]
  exact H l.length 0 (by omega)
theorem same_ev (a b c : Int) (l r : List S75) (hl : l.length ≤ 100000) (hr : r.length ≤ 100000) : Ev (fun k => standstillref04_Same.f k a b c l r a b c l r) true := by
  simp only [standstillref04_Same.f, if_true]
  rw [Ev_bind (same_runs l hl)]
  simp only [if_true]
  rw [Ev_bind (same_runs r hr)]
  exact Ev.now _
theorem wide_tot (rules : List (List S37)) (x y : Int) (hl : rules.length ≤ 10000000000000) (hr : ∀ r ∈ rules, r.length ≤ 10000000000000) : ∀ (d i : Nat) (n : Int), i + d = rules.length → 0 ≤ n → n ≤ 100000000000000000 →
    ∃ b, Ev (fun k => standstilllaw04_wide.l0 k n (i : Int) x y rules) b ∧ (b = false → n ≤ 5000) := by
  intro d
  induction d with
  | zero =>
    intro i n hi h0 h1
    refine ⟨decide (n > 5000), ?_, fun h => by have := of_decide_eq_false h; omega⟩
    rw [Ev_succ]
    simp only [standstilllaw04_wide.l0, Ev_ite, Ev_none]
    rw [if_neg (by omega)]
    exact Ev.now _
  | succ d ih =>
    intro i n hi h0 h1
    have hlt : i < rules.length := by omega
    by_cases c : n ≤ 5000
    · have hm := hr _ (List.getElem_mem hlt)
      have e : wrap64 (n + (rules[i].length : Int)) = n + (rules[i].length : Int) := wrap_id (by omega) (by omega)
      obtain ⟨b, hb, _⟩ := ih (i + 1) (n + (rules[i].length : Int)) (by omega) (by omega) (by omega)
      refine ⟨b, ?_, fun _ => c⟩
      rw [Ev_succ]
      simp only [standstilllaw04_wide.l0, Ev_ite, Ev_none]
      rw [if_pos (by omega), if_pos c, if_pos (by omega), rdL rules i hlt, e, wrapn i (by omega)]
      exact hb
    · refine ⟨decide (n > 5000), ?_, fun h => by have := of_decide_eq_false h; omega⟩
      rw [Ev_succ]
      simp only [standstilllaw04_wide.l0, Ev_ite, Ev_none]
      rw [if_pos (by omega), if_neg c]
      exact Ev.now _
theorem awake_ev : Ev standstilllaw04_awake.f true := Ev.of (k := 60) standstilllaw04_awake.mono (by decide +kernel)
theorem modest_l0 (l : List S75) (a b c : Int) (x y : List S75) (hl : l.length ≤ 1000000000000) : ∀ (d i : Nat), i + d = l.length → Ev (fun k => standstilllaw04_modest.l0 k l (i : Int) a b c x y) ((l.drop i).all (fun r => decide (r.f1 ≤ 36028797018963968)) && decide (-36028797018963968 ≤ b ∧ b ≤ 36028797018963968)) := by
  intro d
  induction d with
  | zero =>
    intro i hi
    rw [Ev_succ, List.drop_eq_nil_of_le (by omega)]
    simp only [standstilllaw04_modest.l0, Ev_ite, Ev_some, List.all_nil, Bool.true_and]
    rw [if_neg (by omega)]
    by_cases c1 : b ≥ -36028797018963968
    · rw [if_pos c1]
      by_cases c2 : b ≤ 36028797018963968
      · rw [decide_eq_true c2, decide_eq_true ⟨by omega, c2⟩]
      · rw [decide_eq_false c2, decide_eq_false (fun h => c2 h.2)]
    · rw [if_neg c1, decide_eq_false (fun h => c1 (by omega))]
  | succ d ih =>
    intro i hi
    have hlt : i < l.length := by omega
    have ih := ih (i + 1) (by omega)
    rw [drop_cons l i hlt, List.all_cons, Ev_succ]
    simp only [standstilllaw04_modest.l0, Ev_ite, Ev_some, Ev_none]
    rw [if_pos (by omega), if_pos (by omega), rd75 l i hlt, wrapn i (by omega)]
    by_cases c1 : l[i].f1 > 36028797018963968
    · rw [if_pos c1, decide_eq_false (by omega), Bool.false_and, Bool.false_and]
    · rw [if_neg c1, decide_eq_true (by omega), Bool.true_and]
      exact ih
theorem modest_ev (st po sy : Int) (lf rt : List S75) (hl : lf.length ≤ 100000) (hr : rt.length ≤ 100000) : Ev (fun k => standstilllaw04_modest.f k st po sy lf rt) ((lf ++ rt).all (fun r => decide (r.f1 ≤ 36028797018963968)) && decide (-36028797018963968 ≤ po ∧ po ≤ 36028797018963968)) := by
  unfold standstilllaw04_modest.f
  simp only [Option.bind_some, List.length_nil, List.nil_append, Ev_ite, Ev_none]
  rw [if_pos (by omega), if_pos (by omega)]
  have := modest_l0 (lf ++ rt) st po sy lf rt (by rw [List.length_append]; omega) (lf ++ rt).length 0 (by omega)
  simpa using this
theorem ahd_le {nx st sy : Int} {l a : List S75} {k : Int} (hr : ∀ r ∈ l, 1 ≤ r.f1 ∧ r.f1 ≤ 36028797018963968) (h : ahd nx st sy l = some (k, a)) : k ≤ 36028797018963969 := by
  cases l with
  | nil =>
    simp only [ahd] at h
    repeat' split at h
    all_goals first | (cases h; done) | (simp only [Option.some.injEq, Prod.mk.injEq] at h; omega)
  | cons r t =>
    have hm := hr r (List.mem_cons_self)
    simp only [ahd] at h
    split at h <;> (simp only [Option.some.injEq, Prod.mk.injEq] at h; omega)

theorem j1_yes (b : Int) (r : S37) (A B : Int × Int × Int × List S75 × List S75 × Int × Bool × Int) (h1 : A.2.2.2.2.2.2.2 = B.2.2.2.2.2.2.2 ∨ A.2.2.2.2.2.2.2 = 4 ∨ B.2.2.2.2.2.2.2 = 4) (h2 : A.2.2.2.2.2.2.1 = B.2.2.2.2.2.2.1) :
    Ev (fun k => standstilllaw04_LeapLong.j1 k b A.2.2.2.2.2.1 A.2.2.2.2.2.2.1 A.2.2.2.2.2.2.2 B.2.2.2.2.2.1 B.2.2.2.2.2.2.1 B.2.2.2.2.2.2.2 true r.f0 r.f1 r.f2 A.1 A.2.1 A.2.2.1 A.2.2.2.1 A.2.2.2.2.1 B.1 B.2.1 B.2.2.1 B.2.2.2.1 B.2.2.2.2.1) true := by
  have ha : Ev (fun k => (standstilllaw04_awake.f k).bind fun t => some t) true := by rw [Ev_bind awake_ev, Ev_some]
  have he : (A.2.2.2.2.2.2.1 == B.2.2.2.2.2.2.1) = true := by rw [h2]; simp
  rw [Ev_succ]
  simp only [standstilllaw04_LeapLong.j1, Ev_ite, Ev_none, if_true, he]
  by_cases c1 : A.2.2.2.2.2.2.2 = B.2.2.2.2.2.2.2
  · rw [if_pos c1]; exact ha
  rw [if_neg c1]
  by_cases c2 : A.2.2.2.2.2.2.2 = 4
  · rw [if_pos c2]; exact ha
  rw [if_neg c2, if_pos (by rcases h1 with h | h | h <;> first | exact absurd h c1 | exact absurd h c2 | exact h)]
  exact ha
theorem j1_no (Sy b : Int) (r : S37) (hr : r.f1 < 0) (po k0 : Int) (bh : List S75) (s : Int × List S75) (hk : 1 ≤ k0) (hk1 : k0 ≤ 2305843009213693952) (hb : 0 ≤ b) (hb1 : b < 1125899906842624) (hbh : bh.length ≤ 2000) (hp : -36028797018963968 ≤ po ∧ po ≤ 36028797018963968) (hk2 : k0 ≤ 36028797018963969) (hr1 : r.f1 = -1 ∨ r.f1 = 1) (hs : s.2.length ≤ 2000) (hA : sideB Sy (bef r.f0 k0 bh) = true) :
    Ev (fun k => standstilllaw04_LeapLong.j1 k b k0 false 0 (k0 + b) false 0 false r.f0 r.f1 r.f2 (outT r po k0 (bef r.f0 k0 bh) s).1 (outT r po k0 (bef r.f0 k0 bh) s).2.1 (outT r po k0 (bef r.f0 k0 bh) s).2.2.1 (outT r po k0 (bef r.f0 k0 bh) s).2.2.2.1 (outT r po k0 (bef r.f0 k0 bh) s).2.2.2.2 (outT r po (k0 + b) (bef r.f0 (k0 + b) bh) s).1 (outT r po (k0 + b) (bef r.f0 (k0 + b) bh) s).2.1 (outT r po (k0 + b) (bef r.f0 (k0 + b) bh) s).2.2.1 (outT r po (k0 + b) (bef r.f0 (k0 + b) bh) s).2.2.2.1 (outT r po (k0 + b) (bef r.f0 (k0 + b) bh) s).2.2.2.2) true := by
  obtain ⟨n1, n2⟩ := side_runs hA
  have hP := Push_ev r.f0 b (bef r.f0 k0 bh) (by omega) n2 hb (by omega)
  rw [bef_bef r.f0 k0 b bh hk hb] at hP
  have n3 := bef_len r.f0 (k0 + b) bh
  have w0 : wrap64 (k0 + b) = k0 + b := wrap_id (by omega) (by omega)
  have w1 : wrap64 (r.f1 * b) = r.f1 * b := by rcases hr1 with e | e <;> rw [e] <;> exact wrap_id (by omega) (by omega)
  have w2 : wrap64 (po + r.f1 * k0 + r.f1 * b) = po + r.f1 * (k0 + b) := by rcases hr1 with e | e <;> rw [e, wrap_id (by omega) (by omega)] <;> omega
  rw [Ev_succ]
  simp only [standstilllaw04_LeapLong.j1, Ev_ite, Ev_none, outT, if_pos hr, Bool.false_eq_true, if_false]
  rw [Ev_bind hP, w0, w1, w2]
  simp only [Ev_ite, Ev_none, if_true]
  rw [Ev_bind (same_ev _ _ _ _ _ (by omega) (by omega))]
  simp only [Ev_ite, if_true]
  rw [Ev_bind awake_ev, Ev_some]
theorem neg_case {St Sy : Int} {rules : List (List S37)} {st po sy b : Int} {lf rt : List S75} (hM : okM St Sy rules = true) (hf : fitsB St Sy st po sy lf rt = true) (hs : st ≠ -1) (hm : rules.length ≤ 100000000000000) (hm2 : ∀ r ∈ rules, r.length ≤ 100000000000000) (hb : 0 ≤ b) (hb1 : b < 1125899906842624) (hmo : ∀ r ∈ lf ++ rt, r.f1 ≤ 36028797018963968) (hpo : -36028797018963968 ≤ po ∧ po ≤ 36028797018963968) (r : S37) (er : rd_T37 (rd_L2 rules st) sy = r) (hr1 : r.f1 = -1 ∨ r.f1 = 1) (hr : r.f1 < 0) :
    Ev (fun k => (leap_Leap.f k St Sy rules st po sy lf rt).bind fun A => (leap_Leap.f k St Sy rules st po sy (lng b lf) rt).bind fun B => (if A.2.2.2.2.2.2.2 = 0 then (if B.2.2.2.2.2.2.2 = 0 then (if A.2.2.2.2.2.2.1 = true then (standstilllaw04_LeapLong.j1 k b A.2.2.2.2.2.1 A.2.2.2.2.2.2.1 A.2.2.2.2.2.2.2 B.2.2.2.2.2.1 B.2.2.2.2.2.2.1 B.2.2.2.2.2.2.2 true r.f0 r.f1 r.f2 A.1 A.2.1 A.2.2.1 A.2.2.2.1 A.2.2.2.2.1 B.1 B.2.1 B.2.2.1 B.2.2.2.1 B.2.2.2.2.1) else (standstilllaw04_LeapLong.j1 k b A.2.2.2.2.2.1 A.2.2.2.2.2.2.1 A.2.2.2.2.2.2.2 B.2.2.2.2.2.1 B.2.2.2.2.2.2.1 B.2.2.2.2.2.2.2 (decide (A.2.2.2.2.2.1 < 2)) r.f0 r.f1 r.f2 A.1 A.2.1 A.2.2.1 A.2.2.2.1 A.2.2.2.2.1 B.1 B.2.1 B.2.2.1 B.2.2.2.1 B.2.2.2.2.1)) else (standstilllaw04_LeapLong.j1 k b A.2.2.2.2.2.1 A.2.2.2.2.2.2.1 A.2.2.2.2.2.2.2 B.2.2.2.2.2.1 B.2.2.2.2.2.2.1 B.2.2.2.2.2.2.2 true r.f0 r.f1 r.f2 A.1 A.2.1 A.2.2.1 A.2.2.2.1 A.2.2.2.2.1 B.1 B.2.1 B.2.2.1 B.2.2.2.1 B.2.2.2.2.1)) else (standstilllaw04_LeapLong.j1 k b A.2.2.2.2.2.1 A.2.2.2.2.2.2.1 A.2.2.2.2.2.2.2 B.2.2.2.2.2.1 B.2.2.2.2.2.2.1 B.2.2.2.2.2.2.2 true r.f0 r.f1 r.f2 A.1 A.2.1 A.2.2.1 A.2.2.2.1 A.2.2.2.2.1 B.1 B.2.1 B.2.2.1 B.2.2.2.1 B.2.2.2.2.1))) true := by
  obtain ⟨⟨t1, t2, t3, t4, t5, t6⟩, t7, t8⟩ := fitsB_true hf
  obtain ⟨l1, l2⟩ := side_runs t7
  obtain ⟨r1, r2⟩ := side_runs t8
  have hg : fitsB St Sy st po sy (lng b lf) rt = true := by
    unfold fitsB
    rw [decide_eq_true ⟨t1, t2, t3, t4, t5, t6⟩, side_lng t7 (fun q hq => hmo q (List.mem_append_left _ hq)) hb hb1, t8]
    rfl
  have hA := Leap_ev hM hf hs hm hm2
  have hB := Leap_ev hM hg hs hm hm2
  rw [er] at hA hB
  rw [Ev_bind hA, Ev_bind hB]
  have hm3 : ∀ q ∈ lf, 1 ≤ q.f1 ∧ q.f1 ≤ 36028797018963968 := fun q hq => ⟨(l2 q hq).1, hmo q (List.mem_append_left _ hq)⟩
  have eT : stepT r st po sy lf rt = (ahd r.f2 st sy lf).map fun ka => (ka.1, outT r po ka.1 (bef r.f0 ka.1 rt) (spl ka.2)) := by simp only [stepT, if_pos hr]
  have eU : stepT r st po sy (lng b lf) rt = (ahd r.f2 st sy (lng b lf)).map fun ka => (ka.1, outT r po ka.1 (bef r.f0 ka.1 rt) (spl ka.2)) := by simp only [stepT, if_pos hr]
  obtain ⟨A, eA⟩ : ∃ A, LeapR St Sy r st po sy lf rt = A := ⟨_, rfl⟩
  obtain ⟨B, eB⟩ : ∃ B, LeapR St Sy r st po sy (lng b lf) rt = B := ⟨_, rfl⟩
  rw [eA, eB]
  unfold LeapR at eA eB
  rw [eT] at eA
  rw [eU] at eB
  simp only [Ev_ite]
  rcases ahd_lng r.f2 st sy b lf with ⟨c1, c2⟩ | ⟨a, a', c1, c2⟩ | ⟨k, a, c1, c2⟩
  · rw [c2] at eA
    rw [c1] at eB
    simp only [Option.map_none] at eA eB
    subst eA eB
    simp only [if_true]
    exact j1_yes b r (st, po, sy, lf, rt, 0, true, 0) (st, po, sy, (lng b lf), rt, 0, true, 0) (.inl rfl) rfl
  · rw [c1] at eA
    rw [c2] at eB
    simp only [Option.map_some] at eA eB
    have gA : A.2.2.2.2.2.2.1 = false ∧ (A.2.2.2.2.2.2.2 = 0 ∧ A.2.2.2.2.2.1 = 1 ∨ A.2.2.2.2.2.2.2 = 4) := by
      rw [← eA]
      split
      · exact ⟨rfl, .inl ⟨rfl, rfl⟩⟩
      · exact ⟨rfl, .inr rfl⟩
    have gB : B.2.2.2.2.2.2.1 = false ∧ (B.2.2.2.2.2.2.2 = 0 ∨ B.2.2.2.2.2.2.2 = 4) := by
      rw [← eB]
      split
      · exact ⟨rfl, .inl rfl⟩
      · exact ⟨rfl, .inr rfl⟩
    have hy := j1_yes b r A B (by rcases gA.2 with h | h <;> rcases gB.2 with h' | h' <;> simp [h, h']) (gA.1.trans gB.1.symm)
    clear eA eB hA hB
    split
    · rename_i e1
      have hk : A.2.2.2.2.2.1 = 1 := by rcases gA.2 with h | h; exact h.2; rw [h] at e1; cases e1
      split
      · split
        · exact hy
        · rw [decide_eq_true (show A.2.2.2.2.2.1 < 2 by rw [hk]; decide)]
          exact hy
      · exact hy
    · exact hy
  · rw [c1] at eA
    rw [c2] at eB
    simp only [Option.map_some] at eA eB
    obtain ⟨e1, e2, e3, e4⟩ := ahd_some l2 c1
    have hk2 : k ≤ 36028797018963969 := by
      have := ahd_le hm3 c1
      omega
    by_cases f1 : fitsB St Sy (outT r po k (bef r.f0 k rt) (spl a)).1 (outT r po k (bef r.f0 k rt) (spl a)).2.1 (outT r po k (bef r.f0 k rt) (spl a)).2.2.1 (outT r po k (bef r.f0 k rt) (spl a)).2.2.2.1 (outT r po k (bef r.f0 k rt) (spl a)).2.2.2.2 = true
    · by_cases f2 : fitsB St Sy (outT r po (k + b) (bef r.f0 (k + b) rt) (spl a)).1 (outT r po (k + b) (bef r.f0 (k + b) rt) (spl a)).2.1 (outT r po (k + b) (bef r.f0 (k + b) rt) (spl a)).2.2.1 (outT r po (k + b) (bef r.f0 (k + b) rt) (spl a)).2.2.2.1 (outT r po (k + b) (bef r.f0 (k + b) rt) (spl a)).2.2.2.2 = true
      · rw [if_pos f1] at eA
        rw [if_pos f2] at eB
        subst eA eB
        simp only [Bool.false_eq_true, if_false, if_true]
        by_cases hk : k < 2
        · rw [decide_eq_true hk]
          exact j1_yes b r (_, _, _, _, _, k, false, 0) (_, _, _, _, _, k + b, false, 0) (.inl rfl) rfl
        · rw [decide_eq_false hk]
          have hside : sideB Sy (bef r.f0 k rt) = true := by
            have := (fitsB_true f1).2
            simp only [outT, if_pos hr] at this
            exact this.2
          have n2 := spl_len a
          exact j1_no Sy b r hr po k rt (spl a) e1 (by omega) hb hb1 (by omega) hpo hk2 hr1 (by omega) hside
      · rw [if_pos f1] at eA
        rw [if_neg f2] at eB
        subst eA eB
        simp only [if_true]
        exact j1_yes b r (_, _, _, _, _, k, false, 0) (0, 0, 0, [], [], 0, false, 4) (.inr (.inr rfl)) rfl
    · rw [if_neg f1] at eA
      have gB : B.2.2.2.2.2.2.1 = false := by
        rw [← eB]
        split <;> rfl
      subst eA
      exact j1_yes b r (0, 0, 0, [], [], 0, false, 4) B (.inr (.inl rfl)) gB.symm

theorem j2_yes (b : Int) (r : S37) (A B : Int × Int × Int × List S75 × List S75 × Int × Bool × Int) (h1 : A.2.2.2.2.2.2.2 = B.2.2.2.2.2.2.2 ∨ A.2.2.2.2.2.2.2 = 4 ∨ B.2.2.2.2.2.2.2 = 4) (h2 : A.2.2.2.2.2.2.1 = B.2.2.2.2.2.2.1) :
    Ev (fun k => standstilllaw04_LeapLong.j2 k b A.2.2.2.2.2.1 A.2.2.2.2.2.2.1 A.2.2.2.2.2.2.2 B.2.2.2.2.2.1 B.2.2.2.2.2.2.1 B.2.2.2.2.2.2.2 true r.f0 r.f1 r.f2 A.1 A.2.1 A.2.2.1 A.2.2.2.1 A.2.2.2.2.1 B.1 B.2.1 B.2.2.1 B.2.2.2.1 B.2.2.2.2.1) true := by
  have ha : Ev (fun k => (standstilllaw04_awake.f k).bind fun t => some t) true := by rw [Ev_bind awake_ev, Ev_some]
  have he : (A.2.2.2.2.2.2.1 == B.2.2.2.2.2.2.1) = true := by rw [h2]; simp
  rw [Ev_succ]
  simp only [standstilllaw04_LeapLong.j2, Ev_ite, Ev_none, if_true, he]
  by_cases c1 : A.2.2.2.2.2.2.2 = B.2.2.2.2.2.2.2
  · rw [if_pos c1]; exact ha
  rw [if_neg c1]
  by_cases c2 : A.2.2.2.2.2.2.2 = 4
  · rw [if_pos c2]; exact ha
  rw [if_neg c2, if_pos (by rcases h1 with h | h | h <;> first | exact absurd h c1 | exact absurd h c2 | exact h)]
  exact ha
theorem j2_no (Sy b : Int) (r : S37) (hr : ¬ r.f1 < 0) (po k0 : Int) (bh : List S75) (s : Int × List S75) (hk : 1 ≤ k0) (hk1 : k0 ≤ 2305843009213693952) (hb : 0 ≤ b) (hb1 : b < 1125899906842624) (hbh : bh.length ≤ 2000) (hp : -36028797018963968 ≤ po ∧ po ≤ 36028797018963968) (hk2 : k0 ≤ 36028797018963969) (hr1 : r.f1 = -1 ∨ r.f1 = 1) (hs : s.2.length ≤ 2000) (hA : sideB Sy (bef r.f0 k0 bh) = true) :
    Ev (fun k => standstilllaw04_LeapLong.j2 k b k0 false 0 (k0 + b) false 0 false r.f0 r.f1 r.f2 (outT r po k0 (bef r.f0 k0 bh) s).1 (outT r po k0 (bef r.f0 k0 bh) s).2.1 (outT r po k0 (bef r.f0 k0 bh) s).2.2.1 (outT r po k0 (bef r.f0 k0 bh) s).2.2.2.1 (outT r po k0 (bef r.f0 k0 bh) s).2.2.2.2 (outT r po (k0 + b) (bef r.f0 (k0 + b) bh) s).1 (outT r po (k0 + b) (bef r.f0 (k0 + b) bh) s).2.1 (outT r po (k0 + b) (bef r.f0 (k0 + b) bh) s).2.2.1 (outT r po (k0 + b) (bef r.f0 (k0 + b) bh) s).2.2.2.1 (outT r po (k0 + b) (bef r.f0 (k0 + b) bh) s).2.2.2.2) true := by
  obtain ⟨n1, n2⟩ := side_runs hA
  have hP := Push_ev r.f0 b (bef r.f0 k0 bh) (by omega) n2 hb (by omega)
  rw [bef_bef r.f0 k0 b bh hk hb] at hP
  have n3 := bef_len r.f0 (k0 + b) bh
  have w0 : wrap64 (k0 + b) = k0 + b := wrap_id (by omega) (by omega)
  have w1 : wrap64 (r.f1 * b) = r.f1 * b := by rcases hr1 with e | e <;> rw [e] <;> exact wrap_id (by omega) (by omega)
  have w2 : wrap64 (po + r.f1 * k0 + r.f1 * b) = po + r.f1 * (k0 + b) := by rcases hr1 with e | e <;> rw [e, wrap_id (by omega) (by omega)] <;> omega
  rw [Ev_succ]
  simp only [standstilllaw04_LeapLong.j2, Ev_ite, Ev_none, outT, if_neg hr, Bool.false_eq_true, if_false]
  rw [Ev_bind hP, w0, w1, w2]
  simp only [Ev_ite, Ev_none, if_true]
  rw [Ev_bind (same_ev _ _ _ _ _ (by omega) (by omega))]
  simp only [Ev_ite, if_true]
  rw [Ev_bind awake_ev, Ev_some]
theorem pos_case {St Sy : Int} {rules : List (List S37)} {st po sy b : Int} {lf rt : List S75} (hM : okM St Sy rules = true) (hf : fitsB St Sy st po sy lf rt = true) (hs : st ≠ -1) (hm : rules.length ≤ 100000000000000) (hm2 : ∀ r ∈ rules, r.length ≤ 100000000000000) (hb : 0 ≤ b) (hb1 : b < 1125899906842624) (hmo : ∀ r ∈ lf ++ rt, r.f1 ≤ 36028797018963968) (hpo : -36028797018963968 ≤ po ∧ po ≤ 36028797018963968) (r : S37) (er : rd_T37 (rd_L2 rules st) sy = r) (hr1 : r.f1 = -1 ∨ r.f1 = 1) (hr : ¬ r.f1 < 0) :
    Ev (fun k => (leap_Leap.f k St Sy rules st po sy lf rt).bind fun A => (leap_Leap.f k St Sy rules st po sy lf (lng b rt)).bind fun B => (if A.2.2.2.2.2.2.2 = 0 then (if B.2.2.2.2.2.2.2 = 0 then (if A.2.2.2.2.2.2.1 = true then (standstilllaw04_LeapLong.j2 k b A.2.2.2.2.2.1 A.2.2.2.2.2.2.1 A.2.2.2.2.2.2.2 B.2.2.2.2.2.1 B.2.2.2.2.2.2.1 B.2.2.2.2.2.2.2 true r.f0 r.f1 r.f2 A.1 A.2.1 A.2.2.1 A.2.2.2.1 A.2.2.2.2.1 B.1 B.2.1 B.2.2.1 B.2.2.2.1 B.2.2.2.2.1) else (standstilllaw04_LeapLong.j2 k b A.2.2.2.2.2.1 A.2.2.2.2.2.2.1 A.2.2.2.2.2.2.2 B.2.2.2.2.2.1 B.2.2.2.2.2.2.1 B.2.2.2.2.2.2.2 (decide (A.2.2.2.2.2.1 < 2)) r.f0 r.f1 r.f2 A.1 A.2.1 A.2.2.1 A.2.2.2.1 A.2.2.2.2.1 B.1 B.2.1 B.2.2.1 B.2.2.2.1 B.2.2.2.2.1)) else (standstilllaw04_LeapLong.j2 k b A.2.2.2.2.2.1 A.2.2.2.2.2.2.1 A.2.2.2.2.2.2.2 B.2.2.2.2.2.1 B.2.2.2.2.2.2.1 B.2.2.2.2.2.2.2 true r.f0 r.f1 r.f2 A.1 A.2.1 A.2.2.1 A.2.2.2.1 A.2.2.2.2.1 B.1 B.2.1 B.2.2.1 B.2.2.2.1 B.2.2.2.2.1)) else (standstilllaw04_LeapLong.j2 k b A.2.2.2.2.2.1 A.2.2.2.2.2.2.1 A.2.2.2.2.2.2.2 B.2.2.2.2.2.1 B.2.2.2.2.2.2.1 B.2.2.2.2.2.2.2 true r.f0 r.f1 r.f2 A.1 A.2.1 A.2.2.1 A.2.2.2.1 A.2.2.2.2.1 B.1 B.2.1 B.2.2.1 B.2.2.2.1 B.2.2.2.2.1))) true := by
  obtain ⟨⟨t1, t2, t3, t4, t5, t6⟩, t7, t8⟩ := fitsB_true hf
  obtain ⟨l1, l2⟩ := side_runs t7
  obtain ⟨r1, r2⟩ := side_runs t8
  have hg : fitsB St Sy st po sy lf (lng b rt) = true := by
    unfold fitsB
    rw [decide_eq_true ⟨t1, t2, t3, t4, t5, t6⟩, side_lng t8 (fun q hq => hmo q (List.mem_append_right _ hq)) hb hb1, t7]
    rfl
  have hA := Leap_ev hM hf hs hm hm2
  have hB := Leap_ev hM hg hs hm hm2
  rw [er] at hA hB
  rw [Ev_bind hA, Ev_bind hB]
  have hm3 : ∀ q ∈ rt, 1 ≤ q.f1 ∧ q.f1 ≤ 36028797018963968 := fun q hq => ⟨(r2 q hq).1, hmo q (List.mem_append_right _ hq)⟩
  have eT : stepT r st po sy lf rt = (ahd r.f2 st sy rt).map fun ka => (ka.1, outT r po ka.1 (bef r.f0 ka.1 lf) (spl ka.2)) := by simp only [stepT, if_neg hr]
  have eU : stepT r st po sy lf (lng b rt) = (ahd r.f2 st sy (lng b rt)).map fun ka => (ka.1, outT r po ka.1 (bef r.f0 ka.1 lf) (spl ka.2)) := by simp only [stepT, if_neg hr]
  obtain ⟨A, eA⟩ : ∃ A, LeapR St Sy r st po sy lf rt = A := ⟨_, rfl⟩
  obtain ⟨B, eB⟩ : ∃ B, LeapR St Sy r st po sy lf (lng b rt) = B := ⟨_, rfl⟩
  rw [eA, eB]
  unfold LeapR at eA eB
  rw [eT] at eA
  rw [eU] at eB
  simp only [Ev_ite]
  rcases ahd_lng r.f2 st sy b rt with ⟨c1, c2⟩ | ⟨a, a', c1, c2⟩ | ⟨k, a, c1, c2⟩
  · rw [c2] at eA
    rw [c1] at eB
    simp only [Option.map_none] at eA eB
    subst eA eB
    simp only [if_true]
    exact j2_yes b r (st, po, sy, lf, rt, 0, true, 0) (st, po, sy, lf, (lng b rt), 0, true, 0) (.inl rfl) rfl
  · rw [c1] at eA
    rw [c2] at eB
    simp only [Option.map_some] at eA eB
    have gA : A.2.2.2.2.2.2.1 = false ∧ (A.2.2.2.2.2.2.2 = 0 ∧ A.2.2.2.2.2.1 = 1 ∨ A.2.2.2.2.2.2.2 = 4) := by
      rw [← eA]
      split
      · exact ⟨rfl, .inl ⟨rfl, rfl⟩⟩
      · exact ⟨rfl, .inr rfl⟩
    have gB : B.2.2.2.2.2.2.1 = false ∧ (B.2.2.2.2.2.2.2 = 0 ∨ B.2.2.2.2.2.2.2 = 4) := by
      rw [← eB]
      split
      · exact ⟨rfl, .inl rfl⟩
      · exact ⟨rfl, .inr rfl⟩
    have hy := j2_yes b r A B (by rcases gA.2 with h | h <;> rcases gB.2 with h' | h' <;> simp [h, h']) (gA.1.trans gB.1.symm)
    clear eA eB hA hB
    split
    · rename_i e1
      have hk : A.2.2.2.2.2.1 = 1 := by rcases gA.2 with h | h; exact h.2; rw [h] at e1; cases e1
      split
      · split
        · exact hy
        · rw [decide_eq_true (show A.2.2.2.2.2.1 < 2 by rw [hk]; decide)]
          exact hy
      · exact hy
    · exact hy
  · rw [c1] at eA
    rw [c2] at eB
    simp only [Option.map_some] at eA eB
    obtain ⟨e1, e2, e3, e4⟩ := ahd_some r2 c1
    have hk2 : k ≤ 36028797018963969 := by
      have := ahd_le hm3 c1
      omega
    by_cases f1 : fitsB St Sy (outT r po k (bef r.f0 k lf) (spl a)).1 (outT r po k (bef r.f0 k lf) (spl a)).2.1 (outT r po k (bef r.f0 k lf) (spl a)).2.2.1 (outT r po k (bef r.f0 k lf) (spl a)).2.2.2.1 (outT r po k (bef r.f0 k lf) (spl a)).2.2.2.2 = true
    · by_cases f2 : fitsB St Sy (outT r po (k + b) (bef r.f0 (k + b) lf) (spl a)).1 (outT r po (k + b) (bef r.f0 (k + b) lf) (spl a)).2.1 (outT r po (k + b) (bef r.f0 (k + b) lf) (spl a)).2.2.1 (outT r po (k + b) (bef r.f0 (k + b) lf) (spl a)).2.2.2.1 (outT r po (k + b) (bef r.f0 (k + b) lf) (spl a)).2.2.2.2 = true
      · rw [if_pos f1] at eA
        rw [if_pos f2] at eB
        subst eA eB
        simp only [Bool.false_eq_true, if_false, if_true]
        by_cases hk : k < 2
        · rw [decide_eq_true hk]
          exact j2_yes b r (_, _, _, _, _, k, false, 0) (_, _, _, _, _, k + b, false, 0) (.inl rfl) rfl
        · rw [decide_eq_false hk]
          have hside : sideB Sy (bef r.f0 k lf) = true := by
            have := (fitsB_true f1).2
            simp only [outT, if_neg hr] at this
            exact this.1
          have n2 := spl_len a
          exact j2_no Sy b r hr po k lf (spl a) e1 (by omega) hb hb1 (by omega) hpo hk2 hr1 (by omega) hside
      · rw [if_pos f1] at eA
        rw [if_neg f2] at eB
        subst eA eB
        simp only [if_true]
        exact j2_yes b r (_, _, _, _, _, k, false, 0) (0, 0, 0, [], [], 0, false, 4) (.inr (.inr rfl)) rfl
    · rw [if_neg f1] at eA
      have gB : B.2.2.2.2.2.2.1 = false := by
        rw [← eB]
        split <;> rfl
      subst eA
      exact j2_yes b r (0, 0, 0, [], [], 0, false, 4) B (.inr (.inl rfl)) gB.symm

theorem LeapLong : standstilllaw04_LeapLong.Pure := by
  intro St Sy rules st po sy lf rt n _ _ hrl _ _ _ hlf hrt hn
  suffices h : Ev (fun k => standstilllaw04_LeapLong.f k St Sy rules st po sy lf rt n) true by
    obtain ⟨K, h⟩ := h
    exact ⟨K, h K (Nat.le_refl _)⟩
  obtain ⟨hl, hr⟩ := hrl
  obtain ⟨hlf, _⟩ := hlf
  obtain ⟨hrt, _⟩ := hrt
  have hn' : 0 ≤ n := by
    simp only [Lit.wf, IntKind.min, IntKind.max, IntKind.signed, IntKind.bits, Bool.and_eq_true, decide_eq_true_eq] at hn
    simpa using hn.1
  clear hn
  have hl' : rules.length ≤ 10000000000000 := by omega
  have hr' : ∀ x ∈ rules, x.length ≤ 10000000000000 := fun x hx => by have := (hr x hx).1; omega
  have hlf' : lf.length ≤ 10000000000000 := by omega
  have hrt' : rt.length ≤ 10000000000000 := by omega
  clear hr hlf hrt hl
  have e0 : wrap64 (wrap64 (wrap64 ((rules.length : Int) + (([] : List Int).length : Int)) + (lf.length : Int)) + (rt.length : Int)) = (rules.length : Int) + lf.length + rt.length := by
    have e1 : wrap64 ((rules.length : Int) + (([] : List Int).length : Int)) = (rules.length : Int) := by
      rw [wrap_id (by simp) (by simp; omega)]; simp
    have e2 : wrap64 ((rules.length : Int) + (lf.length : Int)) = (rules.length : Int) + (lf.length : Int) := wrap_id (by omega) (by omega)
    rw [e1, e2, wrap_id (by omega) (by omega)]
  obtain ⟨wd, hw, hwf⟩ := wide_tot rules St Sy hl' hr' rules.length 0 ((rules.length : Int) + lf.length + rt.length) (by omega) (by omega) (by omega)
  have hwide : Ev (fun k => standstilllaw04_wide.f k St Sy rules 0 0 0 [] st po sy lf rt) wd := by
    unfold standstilllaw04_wide.f
    rw [e0]
    exact hw
  have hyes : Ev (fun k => standstilllaw04_LeapLong.j0 k n true St Sy rules st po sy lf rt) true := by
    rw [Ev_succ]
    simp only [standstilllaw04_LeapLong.j0, if_true]
    rw [Ev_bind awake_ev, Ev_some]
  unfold standstilllaw04_LeapLong.f
  rw [Ev_bind hwide]
  simp only [Ev_ite]
  cases wd with
  | true => exact hyes
  | false =>
    simp only [Bool.false_eq_true, if_false]
    have hsum := hwf rfl
    rw [Ev_bind (rFits_ev St Sy rules st po sy lf rt (by omega) (fun x hx => by have := hr' x hx; omega) hlf' hrt')]
    simp only [Ev_ite]
    cases hM : fitB St Sy rules st po sy lf rt with
    | false =>
      simp only [Bool.false_eq_true, if_false]
      exact hyes
    | true =>
      simp only [if_true]
      by_cases hs : st = -1
      · rw [if_pos hs]; exact hyes
      rw [if_neg hs, Ev_bind (modest_ev st po sy lf rt (by omega) (by omega))]
      cases hmo : ((lf ++ rt).all (fun r => decide (r.f1 ≤ 36028797018963968)) && decide (-36028797018963968 ≤ po ∧ po ≤ 36028797018963968)) with
      | false => exact hyes
      | true =>
        simp only [Bool.and_eq_true, List.all_eq_true, decide_eq_true_eq] at hmo
        obtain ⟨hmo, hpo⟩ := hmo
        simp only [fitB, Bool.and_eq_true] at hM
        obtain ⟨hM, hf⟩ := hM
        obtain ⟨⟨t1, t2, t3, t4, t5, t6⟩, t7, t8⟩ := fitsB_true hf
        obtain ⟨l1, l2⟩ := side_runs t7
        obtain ⟨r1, r2⟩ := side_runs t8
        obtain ⟨q1, q2, q3⟩ := rule_ok hM st sy (by omega) t2 t3 t4
        have hm : rules.length ≤ 100000000000000 := by omega
        have hm2 : ∀ r ∈ rules, r.length ≤ 100000000000000 := fun x hx => by have := hr' x hx; omega
        have b0 : 0 ≤ Int.tmod n 1125899906842624 ∧ Int.tmod n 1125899906842624 < 1125899906842624 := by
          rw [Int.tmod_eq_emod_of_nonneg hn']
          exact ⟨Int.emod_nonneg _ (by omega), Int.emod_lt_of_pos _ (by omega)⟩
        have b1 : wrap64 (Int.tmod n 1125899906842624) = Int.tmod n 1125899906842624 := wrap_id (by omega) (by omega)
        rw [Bool.not_true, Ev_succ]
        simp only [standstilllaw04_LeapLong.j0, Ev_ite, Ev_none, Bool.false_eq_true, if_false]
        rw [b1]
        generalize Int.tmod n 1125899906842624 = b at b0
        obtain ⟨b0, b2⟩ := b0
        rw [if_pos (by omega), if_pos q1, if_pos t3, if_pos q2]
        obtain ⟨r, er⟩ : ∃ r, rd_T37 (rd_L2 rules st) sy = r := ⟨_, rfl⟩
        have hr1 : r.f1 = -1 ∨ r.f1 = 1 := er ▸ q3.2.2.1
        by_cases c : r.f1 < 0
        · have hN := neg_case hM hf hs hm hm2 b0 b2 hmo hpo r er hr1 c
          rw [er, if_pos c, longer_eq b lf (by omega) l2 b0 (by omega)]
          simp only [Option.bind_some]
          exact hN
        · have hN := pos_case hM hf hs hm hm2 b0 b2 hmo hpo r er hr1 c
          rw [er, if_neg c, longer_eq b rt (by omega) r2 b0 (by omega)]
          simp only [Option.bind_some]
          exact hN

end Go.Proofs.Ytdkcociababjdaa.Pure
