/- The plain law of counter.Join: it answers as the reference does, for any two register machines. No condition beyond what every argument has (numbers of their kind, lists within memory). -/
import Derived.Test.YtkekehpfkfadfaaAid
import Derived.Test.YtkekehpfkfadfaaPCounterJoinsx8
namespace Go.Proofs.Ytkekehpfkfadfaa.Pure
open Go.RowKit Go.Proofs.Ytkekehpfkfadfaa.PCounterJoins Go.Proofs.YtkekehpfkfadfaaW.PrintWords Go.Proofs.YtkekehpfkfadfaaW.PrintLast Go.Proofs.YtkekehpfkfadfaaW.PrintMore Go.Proofs.YtkekehpfkfadfaaAid
set_option linter.unusedVariables false
set_option linter.unusedSimpArgs false

theorem rdT (l : List S33) (i : Nat) (h : i < l.length) : rd_T33 l (i : Int) = l[i] := by
  simp [rd_T33, List.getD, h]
/-- An instruction is right: for R registers and n instructions. -/
def okI (R n : Int) (x : S33) : Prop :=
  (x.f0 = 2 ∧ x.f1 = 0 ∧ x.f2 = 0 ∧ x.f3 = 0) ∨ (x.f0 = 0 ∧ 0 ≤ x.f1 ∧ x.f1 < R ∧ 0 ≤ x.f2 ∧ x.f2 < n ∧ x.f3 = 0) ∨ (x.f0 = 1 ∧ 0 ≤ x.f1 ∧ x.f1 < R ∧ 0 ≤ x.f2 ∧ x.f2 < n ∧ 0 ≤ x.f3 ∧ x.f3 < n)
instance (R n : Int) (x : S33) : Decidable (okI R n x) := by unfold okI; infer_instance
def okIb (R n : Int) (x : S33) : Bool := decide (okI R n x)
/-- A register machine is right. -/
def okC (R : Int) (l : List S33) : Bool := decide (1 ≤ R) && decide (R ≤ 16) && decide (1 ≤ l.length) && decide (l.length ≤ 2000) && l.all (okIb R l.length)

theorem cv_loop (R : Int) (l : List S33) (hn : l.length ≤ 2000) (hp : 1 ≤ l.length) : ∀ (d i : Nat), i + d = l.length → Ev (fun k => counter_Valid.l0 k (l.length : Int) l (l.length : Int) (i : Int) R l) ((l.drop i).all (okIb R l.length)) := by
  intro d
  induction d with
  | zero =>
    intro i hi
    rw [Ev_succ]
    simp only [counter_Valid.l0, Ev_ite, Ev_some, Ev_none]
    rw [if_neg (by omega), List.drop_eq_nil_of_le (by omega)]
    rfl
  | succ d ih =>
    intro i hi
    have hlt : i < l.length := by omega
    have ih := ih (i + 1) (by omega)
    rw [drop_cons l i hlt, List.all_cons, Ev_succ]
    simp only [counter_Valid.l0, Ev_ite, Ev_some, Ev_none]
    rw [if_pos (by omega), if_pos (by omega), if_pos (by omega), rdT l i hlt]
    have hw : wrap64 ((i : Int) + 1) = ((i + 1 : Nat) : Int) := by rw [wrap_id (by omega) (by omega)]; omega
    have hgo : okI R l.length l[i] → Ev (fun k => counter_Valid.l0 k (l.length : Int) l (l.length : Int) (wrap64 ((i : Int) + 1)) R l) (okIb R l.length l[i] && (l.drop (i + 1)).all (okIb R l.length)) := by
      intro h
      rw [hw, okIb, decide_eq_true h, Bool.true_and]
      exact ih
    have hno : ¬ okI R l.length l[i] → (false = (okIb R l.length l[i] && (l.drop (i + 1)).all (okIb R l.length))) := by
      intro h
      rw [okIb, decide_eq_false h, Bool.false_and]
    generalize hx : l[i] = x at hgo hno ⊢
    obtain ⟨f0, f1, f2, f3⟩ := x
    simp only
    by_cases h2 : f0 = 2
    · subst h2
      rw [if_pos rfl, Ev_succ]
      simp only [counter_Valid.j2, Ev_ite, Ev_some]
      by_cases hz : f1 = 0 ∧ f2 = 0 ∧ f3 = 0
      · obtain ⟨rfl, rfl, rfl⟩ := hz
        rw [if_neg (by simp), if_pos trivial]
        exact hgo (by simp [okI])
      · rw [if_pos (by simp; omega)]
        exact hno (by simp only [okI]; omega)
    · rw [if_neg h2, Ev_succ]
      simp only [counter_Valid.j2, Ev_ite, Ev_some]
      rw [if_neg (by simp), if_neg h2]
      have hj3 : ∀ b, (b = true → okIb R l.length ⟨f0, f1, f2, f3⟩ = false) → (b = false → 0 ≤ f1 ∧ f1 < R ∧ 0 ≤ f2 ∧ f2 < l.length ∧ (f0 = 0 ∨ f0 = 1)) → Ev (fun k => counter_Valid.j3 k (l.length : Int) l (l.length : Int) (i : Int) b R l f0 f1 f2 f3) (okIb R l.length ⟨f0, f1, f2, f3⟩ && (l.drop (i + 1)).all (okIb R l.length)) := by
        intro b hb1 hb2
        rw [Ev_succ]
        simp only [counter_Valid.j3, Ev_ite, Ev_some]
        cases b with
        | true =>
          rw [if_pos rfl, hb1 rfl]
          rfl
        | false =>
          obtain ⟨h1, h3, h4, h5, h6⟩ := hb2 rfl
          rw [if_neg (by simp)]
          by_cases h0 : f0 = 0
          · rw [if_pos h0]
            by_cases hz : f3 = 0
            · rw [if_pos hz, if_neg (by omega), if_neg (by omega)]
              exact hgo (by simp only [okI]; omega)
            · rw [if_neg hz]
              exact hno (by simp only [okI]; omega)
          · rw [if_neg h0]
            by_cases hz : f3 < 0
            · rw [if_pos hz]
              exact hno (by simp only [okI]; omega)
            · rw [if_neg hz]
              by_cases hz : f3 ≥ l.length
              · rw [if_pos hz]
                exact hno (by simp only [okI]; omega)
              · rw [if_neg hz]
                exact hgo (by simp only [okI]; omega)
      have hfalse : (¬ (0 ≤ f1 ∧ f1 < R ∧ 0 ≤ f2 ∧ f2 < l.length ∧ (f0 = 0 ∨ f0 = 1))) → okIb R l.length ⟨f0, f1, f2, f3⟩ = false := by
        intro h
        rw [okIb, decide_eq_false (by simp only [okI]; omega)]
      split <;> (repeat' split) <;> first | (refine hj3 _ (fun _ => hfalse (by omega)) (fun h => by cases h)) | (refine hj3 _ (fun h => hfalse (by simp at h; omega)) (fun h => by simp at h; omega))
theorem counter_Valid_ev (R : Int) (l : List S33) (hb : l.length * 32 ≤ 140737488351232) : Ev (fun k => counter_Valid.f k R l) (okC R l) := by
  have hj : ∀ b, (b = true → okC R l = false) → (b = false → l.length ≤ 2000 ∧ 1 ≤ l.length ∧ okC R l = l.all (okIb R l.length)) → Ev (fun k => counter_Valid.j0 k (l.length : Int) b R l) (okC R l) := by
    intro b h1 h2
    rw [Ev_succ]
    simp only [counter_Valid.j0, Ev_ite, Ev_some]
    cases b with
    | true => rw [if_pos rfl, h1 rfl]
    | false =>
      obtain ⟨h3, h4, h5⟩ := h2 rfl
      rw [if_neg (by simp), h5]
      exact cv_loop R l h3 h4 l.length 0 (by omega)
  unfold counter_Valid.f
  simp only [Ev_ite]
  have e : okC R l = (decide (1 ≤ R) && decide (R ≤ 16) && decide (1 ≤ l.length) && decide (l.length ≤ 2000) && l.all (okIb R l.length)) := rfl
  split
  · refine hj _ (fun _ => ?_) (fun h => by cases h)
    rw [e, decide_eq_false (by omega)]; rfl
  · split
    · refine hj _ (fun _ => ?_) (fun h => by cases h)
      rw [e, decide_eq_false (by omega : ¬ R ≤ 16)]; simp
    · split
      · refine hj _ (fun _ => ?_) (fun h => by cases h)
        rw [e, decide_eq_false (by omega : ¬ 1 ≤ l.length)]; simp
      · refine hj _ (fun h => ?_) (fun h => ?_)
        · have h := of_decide_eq_true h
          rw [e, decide_eq_false (by omega : ¬ l.length ≤ 2000)]; simp
        · have h := of_decide_eq_false h
          refine ⟨by omega, by omega, ?_⟩
          rw [e, decide_eq_true (by omega), decide_eq_true (by omega), decide_eq_true (by omega), decide_eq_true (by omega)]
          rfl

theorem rv_loop (R : Int) (l : List S33) (hn : l.length ≤ 2000) : ∀ (d i : Nat), i + d = l.length → Ev (fun k => standstillref06_Valid.l0 k (i : Int) R l) ((l.drop i).all (okIb R l.length)) := by
  intro d
  induction d with
  | zero =>
    intro i hi
    rw [Ev_succ]
    simp only [standstillref06_Valid.l0, Ev_ite, Ev_some, Ev_none]
    rw [if_neg (by omega), List.drop_eq_nil_of_le (by omega)]
    rfl
  | succ d ih =>
    intro i hi
    have hlt : i < l.length := by omega
    have ih := ih (i + 1) (by omega)
    rw [drop_cons l i hlt, List.all_cons, Ev_succ]
    simp only [standstillref06_Valid.l0, Ev_ite, Ev_some, Ev_none]
    rw [if_pos (by omega), if_pos (by omega), rdT l i hlt]
    have hw : wrap64 ((i : Int) + 1) = ((i + 1 : Nat) : Int) := by rw [wrap_id (by omega) (by omega)]; omega
    have hgo : okI R l.length l[i] → Ev (fun k => standstillref06_Valid.l0 k (wrap64 ((i : Int) + 1)) R l) (okIb R l.length l[i] && (l.drop (i + 1)).all (okIb R l.length)) := by
      intro h
      rw [hw, okIb, decide_eq_true h, Bool.true_and]
      exact ih
    have hno : ¬ okI R l.length l[i] → (false = (okIb R l.length l[i] && (l.drop (i + 1)).all (okIb R l.length))) := by
      intro h
      rw [okIb, decide_eq_false h, Bool.false_and]
    generalize hx : l[i] = x at hgo hno ⊢
    obtain ⟨f0, f1, f2, f3⟩ := x
    simp only [okI] at hgo hno
    have hi : ∀ a : Int, standstillref06_index.f R l a = some (decide (0 ≤ a ∧ a < l.length)) := by
      intro a
      unfold standstillref06_index.f
      by_cases h : a ≥ 0
      · rw [if_pos h]; simp [h]
      · rw [if_neg h, decide_eq_false (by omega)]
    simp only [hi, Option.bind_some, Ev_ite, Ev_some]
    repeat' split
    all_goals first | (refine hgo ?_; simp_all; omega) | (refine hno ?_; simp_all; omega) | (exfalso; simp_all; omega) | (refine hgo ?_; simp_all; done) | (refine hno ?_; simp_all; done)

theorem ref_Valid_ev (R : Int) (l : List S33) (hb : l.length * 32 ≤ 140737488351232) : Ev (fun k => standstillref06_Valid.f k R l) (okC R l) := by
  have hj : ∀ b, (b = true → okC R l = false) → (b = false → l.length ≤ 2000 ∧ okC R l = l.all (okIb R l.length)) → Ev (fun k => standstillref06_Valid.j0 k b R l) (okC R l) := by
    intro b h1 h2
    rw [Ev_succ]
    simp only [standstillref06_Valid.j0, Ev_ite, Ev_some]
    cases b with
    | true => rw [if_pos rfl, h1 rfl]
    | false =>
      obtain ⟨h3, h5⟩ := h2 rfl
      rw [if_neg (by simp), h5]
      exact rv_loop R l h3 l.length 0 (by omega)
  unfold standstillref06_Valid.f
  simp only [Ev_ite]
  have e : okC R l = (decide (1 ≤ R) && decide (R ≤ 16) && decide (1 ≤ l.length) && decide (l.length ≤ 2000) && l.all (okIb R l.length)) := rfl
  split
  · refine hj _ (fun _ => ?_) (fun h => by cases h)
    rw [e, decide_eq_false (by omega)]; rfl
  · split
    · refine hj _ (fun _ => ?_) (fun h => by cases h)
      rw [e, decide_eq_false (by omega : ¬ R ≤ 16)]; simp
    · split
      · refine hj _ (fun _ => ?_) (fun h => by cases h)
        rw [e, decide_eq_false (by omega : ¬ 1 ≤ l.length)]; simp
      · refine hj _ (fun h => ?_) (fun h => ?_)
        · have h := of_decide_eq_true h
          rw [e, decide_eq_false (by omega : ¬ l.length ≤ 2000)]; simp
        · have h := of_decide_eq_false h
          refine ⟨by omega, ?_⟩
          rw [e, decide_eq_true (by omega), decide_eq_true (by omega), decide_eq_true (by omega), decide_eq_true (by omega)]
          rfl
theorem okC_true {R : Int} {l : List S33} (h : okC R l = true) : 1 ≤ R ∧ R ≤ 16 ∧ 1 ≤ l.length ∧ l.length ≤ 2000 ∧ ∀ x ∈ l, okI R l.length x := by
  simp only [okC, okIb, Bool.and_eq_true, decide_eq_true_eq, List.all_eq_true] at h
  exact ⟨h.1.1.1.1, h.1.1.1.2, h.1.1.2, h.1.2, h.2⟩
theorem okC_mk {R : Int} {l : List S33} (h : 1 ≤ R ∧ R ≤ 16 ∧ 1 ≤ l.length ∧ l.length ≤ 2000 ∧ ∀ x ∈ l, okI R l.length x) : okC R l = true := by
  simp only [okC, okIb, Bool.and_eq_true, decide_eq_true_eq, List.all_eq_true]
  exact ⟨⟨⟨⟨h.1, h.2.1⟩, h.2.2.1⟩, h.2.2.2.1⟩, h.2.2.2.2⟩

/-! Joining. -/
def jA (n : Int) (x : S33) : S33 := if x.f0 = 2 then ⟨0, 0, n, 0⟩ else x
def halts (l : List S33) : Bool := l.any (fun x => decide (x.f0 = 2))
theorem halts_cons (x : S33) (l : List S33) : halts (x :: l) = (decide (x.f0 = 2) || halts l) := rfl
def jB (c : Int) (x : S33) : S33 := if x.f0 = 2 then x else if x.f0 = 1 then ⟨x.f0, x.f1, wrap64 (x.f2 + c), wrap64 (x.f3 + c)⟩ else ⟨x.f0, x.f1, wrap64 (x.f2 + c), x.f3⟩
def first1 (b : Bool) (n : Int) (l : List S33) : List S33 := if b = true then l ++ [⟨1, 0, wrap64 (n + 1), wrap64 (n + 1)⟩] else l
def firstN (b : Bool) (n : Int) : Int := if b = true then wrap64 (n + 1) else n
def outJ (R : Int) (l : List S33) : Int × List S33 × Int := if (l.length : Int) > 2000 then (0, [], 4) else (R, l, 0)

theorem cj_l1 (c : Int) (l : List S33) (R : Int) (hn : l.length ≤ 2000) : ∀ (d i : Nat) (acc : List S33), i + d = l.length → acc.length ≤ 4001 + i → Ev (fun k => counter_Join.l1 k c l (l.length : Int) (i : Int) R acc) (outJ R (acc ++ (l.drop i).map (jB c))) := by
  intro d
  induction d with
  | zero =>
    intro i acc hi ha
    rw [Ev_succ]
    simp only [counter_Join.l1, Ev_ite, Ev_some, Ev_none]
    rw [if_neg (by omega), List.drop_eq_nil_of_le (by omega), List.map_nil, List.append_nil]
    unfold outJ
    split <;> rfl
  | succ d ih =>
    intro i acc hi ha
    have hlt : i < l.length := by omega
    have hw : wrap64 ((i : Int) + 1) = ((i + 1 : Nat) : Int) := by rw [wrap_id (by omega) (by omega)]; omega
    have key : ∀ y, jB c l[i] = y → Ev (fun k => counter_Join.l1 k c l (l.length : Int) (wrap64 ((i : Int) + 1)) R (acc ++ [y])) (outJ R (acc ++ (l.drop i).map (jB c))) := by
      intro y hy
      have := ih (i + 1) (acc ++ [y]) (by omega) (by simp; omega)
      rw [hw]
      rw [drop_cons l i hlt, List.map_cons, hy]
      simpa using this
    rw [Ev_succ]
    simp only [counter_Join.l1, Ev_ite, Ev_some, Ev_none]
    rw [if_pos (by omega), if_pos (by omega), if_pos (by omega), rdT l i hlt]
    have hlim : acc.length < 4398046511104 := by omega
    simp only [if_pos hlim]
    generalize l[i] = x at key ⊢
    obtain ⟨f0, f1, f2, f3⟩ := x
    simp only
    simp only [jB] at key
    repeat' split
    all_goals first | (exfalso; omega) | (refine key _ ?_; simp_all)
theorem cj_l0 (n : Int) (l1 l2 : List S33) (R2 R : Int) (hn : (l1.length : Int) = n) (h1 : l1.length ≤ 2000) (h2 : l2.length ≤ 2000) : ∀ (d i : Nat) (b : Bool) (acc : List S33), i + d = l1.length → acc.length = i →
    Ev (fun k => counter_Join.l0 k n b l1 (l1.length : Int) (i : Int) R2 l2 R acc) (outJ R (first1 (b || halts (l1.drop i)) n (acc ++ (l1.drop i).map (jA n)) ++ l2.map (jB (firstN (b || halts (l1.drop i)) n)))) := by
  intro d
  induction d with
  | zero =>
    intro i b acc hi ha
    rw [Ev_succ]
    simp only [counter_Join.l0, Ev_ite, Ev_some, Ev_none]
    have hlim : acc.length < 4398046511104 := by omega
    rw [if_neg (by omega), List.drop_eq_nil_of_le (by omega), List.map_nil, List.append_nil]
    have e : halts ([] : List S33) = false := rfl
    rw [e, Bool.or_false]
    cases b with
    | true =>
      rw [if_pos rfl, if_pos hlim, Ev_succ]
      simp only [counter_Join.j2]
      have := cj_l1 (wrap64 (n + 1)) l2 R h2 l2.length 0 (acc ++ [⟨1, 0, wrap64 (n + 1), wrap64 (n + 1)⟩]) (by omega) (by simp; omega)
      simpa [first1, firstN] using this
    | false =>
      rw [if_neg (by simp), Ev_succ]
      simp only [counter_Join.j2]
      have := cj_l1 n l2 R h2 l2.length 0 acc (by omega) (by omega)
      simpa [first1, firstN] using this
  | succ d ih =>
    intro i b acc hi ha
    have hlt : i < l1.length := by omega
    have hw : wrap64 ((i : Int) + 1) = ((i + 1 : Nat) : Int) := by rw [wrap_id (by omega) (by omega)]; omega
    have hlim : acc.length < 4398046511104 := by omega
    rw [Ev_succ]
    simp only [counter_Join.l0, Ev_ite, Ev_some, Ev_none]
    rw [if_pos (by omega), if_pos (by omega), if_pos (by omega), rdT l1 i hlt, hw]
    simp only [if_pos hlim]
    rw [drop_cons l1 i hlt, List.map_cons]
    by_cases h : l1[i].f0 = 2
    · rw [if_pos h]
      have := ih (i + 1) true (acc ++ [⟨0, 0, n, 0⟩]) (by omega) (by simp; omega)
      have e : halts (l1[i] :: l1.drop (i + 1)) = true  := by rw [halts_cons, decide_eq_true h]; rfl
      have e2 : jA n l1[i] = ⟨0, 0, n, 0⟩ := by simp [jA, h]
      rw [e, e2, Bool.or_true]
      simpa using this
    · rw [if_neg h]
      have := ih (i + 1) b (acc ++ [l1[i]]) (by omega) (by simp; omega)
      have e : halts (l1[i] :: l1.drop (i + 1)) = halts (l1.drop (i + 1)) := by rw [halts_cons, decide_eq_false h]; rfl
      have e2 : jA n l1[i] = l1[i] := by simp [jA, h]
      rw [e, e2]
      simpa using this
/-- The joined code. -/
def joined (l1 l2 : List S33) : List S33 := first1 (halts l1) l1.length (l1.map (jA l1.length)) ++ l2.map (jB (firstN (halts l1) l1.length))
theorem counter_Join_ev (R1 : Int) (l1 : List S33) (R2 : Int) (l2 : List S33) (hb1 : l1.length * 32 ≤ 140737488351232) (hb2 : l2.length * 32 ≤ 140737488351232) :
    Ev (fun k => counter_Join.f k R1 l1 R2 l2) (if okC R1 l1 = true ∧ okC R2 l2 = true then outJ (mx R1 R2) (joined l1 l2) else (0, [], 1)) := by
  unfold counter_Join.f
  rw [Ev_bind (counter_Valid_ev R1 l1 hb1)]
  simp only [Ev_ite]
  by_cases h1 : okC R1 l1 = true
  · rw [if_pos h1, Ev_bind (counter_Valid_ev R2 l2 hb2), Ev_succ]
    simp only [counter_Join.j0, Ev_ite, Ev_some]
    by_cases h2 : okC R2 l2 = true
    · rw [if_neg (by simp [h2]), if_pos ⟨h1, h2⟩]
      obtain ⟨_, _, _, h3, _⟩ := okC_true h1
      obtain ⟨_, _, _, h4, _⟩ := okC_true h2
      have := cj_l0 l1.length l1 l2 R2 (mx R1 R2) rfl h3 h4 l1.length 0 false [] (by omega) rfl
      simpa [joined] using this
    · rw [if_pos (by simp [h2]), if_neg (fun h => h2 h.2)]
  · rw [if_neg h1, Ev_succ]
    simp only [counter_Join.j0, Ev_ite, Ev_some]
    rw [if_pos trivial, if_neg (fun h => h1 h.1)]

theorem rj_l1 (c : Int) (R2 : Int) (l : List S33) (R : Int) (hn : l.length ≤ 2000) (hf : ∀ x ∈ l, x.f0 = 0 ∨ x.f0 = 1 ∨ x.f0 = 2) : ∀ (d i : Nat) (acc : List S33), i + d = l.length → acc.length ≤ 4001 + i → Ev (fun k => standstillref06_Join.l1 k c (i : Int) R2 l R acc) (R, acc ++ (l.drop i).map (jB c)) := by
  intro d
  induction d with
  | zero =>
    intro i acc hi ha
    rw [Ev_succ]
    simp only [standstillref06_Join.l1, Ev_ite, Ev_some, Ev_none]
    rw [if_neg (by omega), List.drop_eq_nil_of_le (by omega), List.map_nil, List.append_nil]
  | succ d ih =>
    intro i acc hi ha
    have hlt : i < l.length := by omega
    have hw : wrap64 ((i : Int) + 1) = ((i + 1 : Nat) : Int) := by rw [wrap_id (by omega) (by omega)]; omega
    have hx := hf l[i] (List.getElem_mem hlt)
    have key : ∀ y, jB c l[i] = y → Ev (fun k => standstillref06_Join.l1 k c (wrap64 ((i : Int) + 1)) R2 l R (acc ++ [y])) (R, acc ++ (l.drop i).map (jB c)) := by
      intro y hy
      have := ih (i + 1) (acc ++ [y]) (by omega) (by simp; omega)
      rw [hw]
      rw [drop_cons l i hlt, List.map_cons, hy]
      simpa using this
    rw [Ev_succ]
    simp only [standstillref06_Join.l1, Ev_ite, Ev_some, Ev_none]
    rw [if_pos (by omega), if_pos (by omega), rdT l i hlt]
    have hlim : acc.length < 4398046511104 := by omega
    simp only [if_pos hlim]
    generalize l[i] = x at key hx ⊢
    obtain ⟨f0, f1, f2, f3⟩ := x
    simp only at hx ⊢
    simp only [jB] at key
    repeat' split
    all_goals first | (exfalso; omega) | (refine key _ ?_; simp_all)
theorem rj_l0 (n : Int) (l1 l2 : List S33) (R1 R2 R : Int) (hn : (l1.length : Int) = n) (h1 : l1.length ≤ 2000) (h2 : l2.length ≤ 2000) (hf : ∀ x ∈ l2, x.f0 = 0 ∨ x.f0 = 1 ∨ x.f0 = 2) : ∀ (d i : Nat) (b : Bool) (acc : List S33), i + d = l1.length → acc.length = i →
    Ev (fun k => standstillref06_Join.l0 k n b (i : Int) R1 l1 R2 l2 R acc) (R, first1 (b || halts (l1.drop i)) n (acc ++ (l1.drop i).map (jA n)) ++ l2.map (jB (firstN (b || halts (l1.drop i)) n))) := by
  intro d
  induction d with
  | zero =>
    intro i b acc hi ha
    rw [Ev_succ]
    simp only [standstillref06_Join.l0, Ev_ite, Ev_some, Ev_none]
    have hlim : acc.length < 4398046511104 := by omega
    rw [if_neg (by omega), List.drop_eq_nil_of_le (by omega), List.map_nil, List.append_nil]
    have e : halts ([] : List S33) = false := rfl
    rw [e, Bool.or_false]
    cases b with
    | true =>
      rw [if_pos rfl, if_pos hlim, Ev_succ]
      simp only [standstillref06_Join.j1]
      have hw : wrap64 (n + 1) = n + 1 := wrap_id (by omega) (by omega)
      have := rj_l1 (n + 1) R2 l2 R h2 hf l2.length 0 (acc ++ [⟨1, 0, n + 1, n + 1⟩]) (by omega) (by simp; omega)
      have e : ((acc ++ [(⟨1, 0, n + 1, n + 1⟩ : S33)]).length : Int) = n + 1 := by simp; omega
      simp only [first1, firstN, hw, e, if_true]
      simpa using this
    | false =>
      rw [if_neg (by simp), Ev_succ]
      simp only [standstillref06_Join.j1]
      have := rj_l1 n R2 l2 R h2 hf l2.length 0 acc (by omega) (by omega)
      have e : (acc.length : Int) = n := by omega
      rw [e]
      simpa [first1, firstN] using this
  | succ d ih =>
    intro i b acc hi ha
    have hlt : i < l1.length := by omega
    have hw : wrap64 ((i : Int) + 1) = ((i + 1 : Nat) : Int) := by rw [wrap_id (by omega) (by omega)]; omega
    have hlim : acc.length < 4398046511104 := by omega
    rw [Ev_succ]
    simp only [standstillref06_Join.l0, Ev_ite, Ev_some, Ev_none]
    rw [if_pos (by omega), if_pos (by omega), if_pos (by omega), rdT l1 i hlt, hw]
    simp only [if_pos hlim]
    rw [drop_cons l1 i hlt, List.map_cons]
    by_cases h : l1[i].f0 = 2
    · rw [if_pos h]
      have := ih (i + 1) true (acc ++ [⟨0, 0, n, 0⟩]) (by omega) (by simp; omega)
      have e : halts (l1[i] :: l1.drop (i + 1)) = true := by rw [halts_cons, decide_eq_true h]; rfl
      have e2 : jA n l1[i] = ⟨0, 0, n, 0⟩ := by simp [jA, h]
      rw [e, e2, Bool.or_true]
      simpa using this
    · rw [if_neg h]
      have := ih (i + 1) b (acc ++ [l1[i]]) (by omega) (by simp; omega)
      have e : halts (l1[i] :: l1.drop (i + 1)) = halts (l1.drop (i + 1)) := by rw [halts_cons, decide_eq_false h]; rfl
      have e2 : jA n l1[i] = l1[i] := by simp [jA, h]
      rw [e, e2]
      simpa using this
theorem ref_Join_ev (R1 : Int) (l1 : List S33) (R2 : Int) (l2 : List S33) (h1 : l1.length ≤ 2000) (h2 : l2.length ≤ 2000) (hf : ∀ x ∈ l2, x.f0 = 0 ∨ x.f0 = 1 ∨ x.f0 = 2) :
    Ev (fun k => standstillref06_Join.f k R1 l1 R2 l2) (mx R1 R2, joined l1 l2) := by
  unfold standstillref06_Join.f
  have := rj_l0 l1.length l1 l2 R1 R2 (mx R1 R2) rfl h1 h2 hf l1.length 0 false [] (by omega) rfl
  simpa [joined] using this

theorem same_loop (R : Int) (l : List S33) (hn : l.length ≤ 9007199254740992) : ∀ (d i : Nat), i + d = l.length → Ev (fun k => standstillref06_Same.l0 k (i : Int) R l R l) true := by
  intro d
  induction d with
  | zero =>
    intro i hi
    rw [Ev_succ]
    simp only [standstillref06_Same.l0, Ev_ite, Ev_some, Ev_none]
    rw [if_neg (by omega)]
    trivial
  | succ d ih =>
    intro i hi
    have hw : wrap64 ((i : Int) + 1) = ((i + 1 : Nat) : Int) := by rw [wrap_id (by omega) (by omega)]; omega
    rw [Ev_succ]
    simp only [standstillref06_Same.l0, Ev_ite, Ev_some, Ev_none]
    rw [if_pos (by omega), if_pos (by omega), if_pos (by omega), if_neg (by simp), hw]
    exact ih (i + 1) (by omega)
theorem ref_Same_ev (R : Int) (l : List S33) (hn : l.length ≤ 9007199254740992) : Ev (fun k => standstillref06_Same.f k R l R l) true := by
  unfold standstillref06_Same.f
  simp only [Ev_ite]
  rw [if_pos trivial, Ev_succ]
  simp only [standstillref06_Same.j0, Ev_ite, Ev_some]
  rw [if_neg (by simp)]
  exact same_loop R l hn l.length 0 (by omega)
theorem awake_ev : Ev (fun k => standstilllaw06_awake.f k) true := Ev.of (k := 200) standstilllaw06_awake.mono (by decide +kernel)

theorem joined_length (l1 l2 : List S33) : (joined l1 l2).length = l1.length + (if halts l1 = true then 1 else 0) + l2.length := by
  unfold joined first1
  split <;> simp <;> omega
theorem joined_ok (R1 R2 : Int) (l1 l2 : List S33) (h1 : okC R1 l1 = true) (h2 : okC R2 l2 = true) (hl : (joined l1 l2).length ≤ 2000) : okC (mx R1 R2) (joined l1 l2) = true := by
  obtain ⟨a1, a2, a3, a4, a5⟩ := okC_true h1
  obtain ⟨b1, b2, b3, b4, b5⟩ := okC_true h2
  have hm1 : R1 ≤ mx R1 R2 := by unfold mx; omega
  have hm2 : R2 ≤ mx R1 R2 := by unfold mx; omega
  have hm3 : mx R1 R2 ≤ 16 := by unfold mx; omega
  have hlen := joined_length l1 l2
  refine okC_mk ⟨by omega, hm3, by omega, hl, ?_⟩
  have hw : wrap64 ((l1.length : Int) + 1) = l1.length + 1 := wrap_id (by omega) (by omega)
  have hA : ∀ x ∈ l1.map (jA l1.length), okI (mx R1 R2) (joined l1 l2).length x := by
    intro x hx
    obtain ⟨y, hy, rfl⟩ := List.mem_map.1 hx
    have hk := a5 y hy
    unfold okI at hk
    unfold jA
    split
    · rename_i h
      have hh : halts l1 = true := by
        unfold halts
        rw [List.any_eq_true]
        exact ⟨y, hy, decide_eq_true h⟩
      rw [hh] at hlen
      simp at hlen
      simp only [okI, and_true, true_and]
      omega
    · simp only [okI]
      omega
  have hB : ∀ x ∈ l2.map (jB (firstN (halts l1) l1.length)), okI (mx R1 R2) (joined l1 l2).length x := by
    intro x hx
    obtain ⟨y, hy, rfl⟩ := List.mem_map.1 hx
    have hk := b5 y hy
    unfold okI at hk
    have hc : firstN (halts l1) l1.length = l1.length + (if halts l1 = true then 1 else 0 : Nat) := by
      unfold firstN
      split
      · rw [hw]; rfl
      · simp
    rw [hc]
    generalize hg : (if halts l1 = true then 1 else 0 : Nat) = g at hlen ⊢
    have hg1 : g ≤ 1 := by rw [← hg]; split <;> omega
    unfold jB
    split
    · simp only [okI]; omega
    · split
      · simp only [okI]
        rw [wrap_id (by omega) (by omega), wrap_id (by omega) (by omega)]
        omega
      · simp only [okI]
        rw [wrap_id (by omega) (by omega)]
        omega
  intro x hx
  unfold joined at hx
  rcases List.mem_append.1 hx with hx | hx
  · unfold first1 at hx
    split at hx
    · rename_i hh
      rcases List.mem_append.1 hx with hx | hx
      · exact hA x hx
      · obtain rfl := List.mem_singleton.1 hx
        rw [hh] at hlen
        simp at hlen
        simp only [okI, and_true, true_and]
        rw [hw]
        omega
    · exact hA x hx
  · exact hB x hx

/-- The plain law: Join answers as documented, for any two register machines. -/
theorem CounterJoins : standstilllaw06_CounterJoins.Pure := by
  intro R1 l1 R2 l2 _ ⟨hb1, _⟩ _ ⟨hb2, _⟩
  refine Ev.rounds ?_
  have hw : ∀ R l, Ev (fun _ => standstilllaw06_wide.f R l 0 ([] : List Int)) (decide ((l.length : Int) > 4000)) := by
    intro R l
    unfold standstilllaw06_wide.f
    split
    · rename_i h; rw [decide_eq_true h]; exact Ev.now _
    · rename_i h; rw [decide_eq_false h]; exact Ev.now _
  have haw : Ev (fun k => (standstilllaw06_awake.f k).bind fun t => some t) true := by
    rw [Ev_bind awake_ev]
    exact Ev.now _
  unfold standstilllaw06_CounterJoins.f
  rw [Ev_bind (hw R1 l1)]
  simp only [Ev_ite]
  have hj : ∀ b, (b = false → l2.length ≤ 4000) → Ev (fun k => standstilllaw06_CounterJoins.j0 k b R1 l1 R2 l2) true := by
    intro b hb
    rw [Ev_succ]
    simp only [standstilllaw06_CounterJoins.j0, Ev_ite]
    cases b with
    | true => rw [if_pos rfl]; exact haw
    | false =>
      rw [if_neg (by simp), Ev_bind (counter_Join_ev R1 l1 R2 l2 hb1 hb2), Ev_bind (ref_Valid_ev R1 l1 hb1)]
      simp only [Ev_ite]
      have hbad : ¬ (okC R1 l1 = true ∧ okC R2 l2 = true) → ∀ x : Int × List S33 × Int, x = (0, [], 1) → Ev (fun k => standstilllaw06_CounterJoins.j1 k x.2.2 true R1 l1 R2 l2 x.1 x.2.1) true := by
        rintro _ _ rfl
        rw [Ev_succ]
        simp only [standstilllaw06_CounterJoins.j1, Ev_ite, Ev_some]
        rw [if_pos trivial, if_pos trivial, Ev_bind (ref_Same_ev 0 [] (by simp))]
        simp only [Ev_ite, Ev_some]
        rw [if_pos trivial]
        exact haw
      by_cases h1 : okC R1 l1 = true
      · rw [if_pos h1, Ev_bind (ref_Valid_ev R2 l2 hb2)]
        by_cases h2 : okC R2 l2 = true
        · rw [if_pos ⟨h1, h2⟩, h2]
          obtain ⟨a1, a2, a3, a4, a5⟩ := okC_true h1
          obtain ⟨b1, b2, b3, b4, b5⟩ := okC_true h2
          have hlen := joined_length l1 l2
          have hle : (if halts l1 = true then 1 else 0 : Nat) ≤ 1 := by split <;> omega
          rw [Ev_succ]
          simp only [standstilllaw06_CounterJoins.j1, Ev_ite, Ev_some]
          rw [if_neg (by simp), Ev_bind (ref_Join_ev R1 l1 R2 l2 a4 b4 (fun x hx => by have := b5 x hx; unfold okI at this; omega)), Ev_bind (ref_Valid_ev (mx R1 R2) (joined l1 l2) (by omega))]
          simp only [Ev_ite, Ev_some]
          by_cases hl : (joined l1 l2).length ≤ 2000
          · rw [if_pos (joined_ok R1 R2 l1 l2 h1 h2 hl)]
            have ho : outJ (mx R1 R2) (joined l1 l2) = (mx R1 R2, joined l1 l2, 0) := if_neg (by omega)
            rw [ho]
            simp only []
            rw [if_pos trivial, Ev_bind (ref_Same_ev _ _ (by omega))]
            simp only [Ev_ite, Ev_some]
            rw [if_pos trivial]
            exact haw
          · have hno : ¬ okC (mx R1 R2) (joined l1 l2) = true := fun h => hl (okC_true h).2.2.2.1
            rw [if_neg hno]
            have ho : outJ (mx R1 R2) (joined l1 l2) = (0, [], 4) := if_pos (by omega)
            rw [ho]
            simp only []
            rw [if_pos trivial, Ev_bind (ref_Same_ev 0 [] (by simp))]
            simp only [Ev_ite, Ev_some]
            rw [if_pos trivial]
            exact haw
        · have hn : ¬ (okC R1 l1 = true ∧ okC R2 l2 = true) := fun h => h2 h.2
          have e : (!okC R2 l2) = true := by simp [h2]
          rw [if_neg hn, e]
          exact hbad hn _ rfl
      · have hn : ¬ (okC R1 l1 = true ∧ okC R2 l2 = true) := fun h => h1 h.1
        rw [if_neg h1, if_neg hn]
        exact hbad hn _ rfl
  by_cases h : decide ((l1.length : Int) > 4000) = true
  · rw [if_pos h]
    exact hj true (by simp)
  · rw [if_neg h, Ev_bind (hw R2 l2)]
    refine hj _ (fun h => ?_)
    have := of_decide_eq_false h
    omega
end Go.Proofs.Ytkekehpfkfadfaa.Pure
