/- The plain law of CounterJoined: if a stops after n steps with some contents, and b from these contents after k steps, Join of a and b stops after n + k + 2 steps with the same contents. No condition beyond what every argument has (numbers of their kind, lists within memory). -/
import Derived.Test.YtkekehpfkfadfaaAid
import Derived.Test.YtkekehpfkfadfaaPCounterJoinedx7
namespace Go.Proofs.Ytkekehpfkfadfaa.Pure
open Go.RowKit Go.Proofs.Ytkekehpfkfadfaa.PCounterJoined Go.Proofs.YtkekehpfkfadfaaW.PrintWords Go.Proofs.YtkekehpfkfadfaaW.PrintLast Go.Proofs.YtkekehpfkfadfaaW.PrintMore Go.Proofs.YtkekehpfkfadfaaAid
set_option linter.unusedVariables false
set_option linter.unusedSimpArgs false

theorem rdT (l : List S33) (i : Nat) (h : i < l.length) : rd_T33 l (i : Int) = l[i] := by
  simp [rd_T33, List.getD, h]
/-- An instruction is right: for R registers and n instructions. -/
def okI (R n : Int) (x : S33) : Prop :=
  (x.f0 = 2 ∧ x.f1 = 0 ∧ x.f2 = 0 ∧ x.f3 = 0) ∨ (x.f0 = 0 ∧ 0 ≤ x.f1 ∧ x.f1 < R ∧ 0 ≤ x.f2 ∧ x.f2 < n ∧ x.f3 = 0) ∨ (x.f0 = 1 ∧ 0 ≤ x.f1 ∧ x.f1 < R ∧ 0 ≤ x.f2 ∧ x.f2 < n ∧ 0 ≤ x.f3 ∧ x.f3 < n)
instance (R n : Int) (x : S33) : Decidable (okI R n x) := by unfold okI; infer_instance
def okIb (R n : Int) (x : S33) : Bool := decide (okI R n x)
/-- A register machine is right. -/
def okC (R : Int) (l : List S33) : Bool := decide (1 ≤ R) && decide (R ≤ 16) && decide (1 ≤ l.length) && decide (l.length ≤ 2000) && l.all (okIb R l.length)

theorem cv_loop (R : Int) (l : List S33) (hn : l.length ≤ 2000) (hp : 1 ≤ l.length) : ∀ (d i : Nat), i + d = l.length → Ev (fun k => counter_Valid.l0 k (l.length : Int) l (l.length : Int) (i : Int) R l) ((l.drop i).all (okIb R l.length)) := by
  intro d
  induction d with
  | zero =>
    intro i hi
    rw [Ev_succ]
    simp only [counter_Valid.l0, Ev_ite, Ev_some, Ev_none]
    rw [if_neg (by omega), List.drop_eq_nil_of_le (by omega)]
    rfl
  | succ d ih =>
    intro i hi
    have hlt : i < l.length := by omega
    have ih := ih (i + 1) (by omega)
    rw [drop_cons l i hlt, List.all_cons, Ev_succ]
    simp only [counter_Valid.l0, Ev_ite, Ev_some, Ev_none]
    rw [if_pos (by omega), if_pos (by omega), if_pos (by omega), rdT l i hlt]
    have hw : wrap64 ((i : Int) + 1) = ((i + 1 : Nat) : Int) := by rw [wrap_id (by omega) (by omega)]; omega
    have hgo : okI R l.length l[i] → Ev (fun k => counter_Valid.l0 k (l.length : Int) l (l.length : Int) (wrap64 ((i : Int) + 1)) R l) (okIb R l.length l[i] && (l.drop (i + 1)).all (okIb R l.length)) := by
      intro h
      rw [hw, okIb, decide_eq_true h, Bool.true_and]
      exact ih
    have hno : ¬ okI R l.length l[i] → (false = (okIb R l.length l[i] && (l.drop (i + 1)).all (okIb R l.length))) := by
      intro h
      rw [okIb, decide_eq_false h, Bool.false_and]
    generalize hx : l[i] = x at hgo hno ⊢
    obtain ⟨f0, f1, f2, f3⟩ := x
    simp only
    by_cases h2 : f0 = 2
    · subst h2
      rw [if_pos rfl, Ev_succ]
      simp only [counter_Valid.j2, Ev_ite, Ev_some]
      by_cases hz : f1 = 0 ∧ f2 = 0 ∧ f3 = 0
      · obtain ⟨rfl, rfl, rfl⟩ := hz
        rw [if_neg (by simp), if_pos trivial]
        exact hgo (by simp [okI])
      · rw [if_pos (by simp; omega)]
        exact hno (by simp only [okI]; omega)
    · rw [if_neg h2, Ev_succ]
      simp only [counter_Valid.j2, Ev_ite, Ev_some]
      rw [if_neg (by simp), if_neg h2]
      have hj3 : ∀ b, (b = true → okIb R l.length ⟨f0, f1, f2, f3⟩ = false) → (b = false → 0 ≤ f1 ∧ f1 < R ∧ 0 ≤ f2 ∧ f2 < l.length ∧ (f0 = 0 ∨ f0 = 1)) → Ev (fun k => counter_Valid.j3 k (l.length : Int) l (l.length : Int) (i : Int) b R l f0 f1 f2 f3) (okIb R l.length ⟨f0, f1, f2, f3⟩ && (l.drop (i + 1)).all (okIb R l.length)) := by
        intro b hb1 hb2
        rw [Ev_succ]
        simp only [counter_Valid.j3, Ev_ite, Ev_some]
        cases b with
        | true =>
          rw [if_pos rfl, hb1 rfl]
          rfl
        | false =>
          obtain ⟨h1, h3, h4, h5, h6⟩ := hb2 rfl
          rw [if_neg (by simp)]
          by_cases h0 : f0 = 0
          · rw [if_pos h0]
            by_cases hz : f3 = 0
            · rw [if_pos hz, if_neg (by omega), if_neg (by omega)]
              exact hgo (by simp only [okI]; omega)
            · rw [if_neg hz]
              exact hno (by simp only [okI]; omega)
          · rw [if_neg h0]
            by_cases hz : f3 < 0
            · rw [if_pos hz]
              exact hno (by simp only [okI]; omega)
            · rw [if_neg hz]
              by_cases hz : f3 ≥ l.length
              · rw [if_pos hz]
                exact hno (by simp only [okI]; omega)
              · rw [if_neg hz]
                exact hgo (by simp only [okI]; omega)
      have hfalse : (¬ (0 ≤ f1 ∧ f1 < R ∧ 0 ≤ f2 ∧ f2 < l.length ∧ (f0 = 0 ∨ f0 = 1))) → okIb R l.length ⟨f0, f1, f2, f3⟩ = false := by
        intro h
        rw [okIb, decide_eq_false (by simp only [okI]; omega)]
      split <;> (repeat' split) <;> first | (refine hj3 _ (fun _ => hfalse (by omega)) (fun h => by cases h)) | (refine hj3 _ (fun h => hfalse (by simp at h; omega)) (fun h => by simp at h; omega))
theorem counter_Valid_ev (R : Int) (l : List S33) (hb : l.length * 32 ≤ 140737488351232) : Ev (fun k => counter_Valid.f k R l) (okC R l) := by
  have hj : ∀ b, (b = true → okC R l = false) → (b = false → l.length ≤ 2000 ∧ 1 ≤ l.length ∧ okC R l = l.all (okIb R l.length)) → Ev (fun k => counter_Valid.j0 k (l.length : Int) b R l) (okC R l) := by
    intro b h1 h2
    rw [Ev_succ]
    simp only [counter_Valid.j0, Ev_ite, Ev_some]
    cases b with
    | true => rw [if_pos rfl, h1 rfl]
    | false =>
      obtain ⟨h3, h4, h5⟩ := h2 rfl
      rw [if_neg (by simp), h5]
      exact cv_loop R l h3 h4 l.length 0 (by omega)
  unfold counter_Valid.f
  simp only [Ev_ite]
  have e : okC R l = (decide (1 ≤ R) && decide (R ≤ 16) && decide (1 ≤ l.length) && decide (l.length ≤ 2000) && l.all (okIb R l.length)) := rfl
  split
  · refine hj _ (fun _ => ?_) (fun h => by cases h)
    rw [e, decide_eq_false (by omega)]; rfl
  · split
    · refine hj _ (fun _ => ?_) (fun h => by cases h)
      rw [e, decide_eq_false (by omega : ¬ R ≤ 16)]; simp
    · split
      · refine hj _ (fun _ => ?_) (fun h => by cases h)
        rw [e, decide_eq_false (by omega : ¬ 1 ≤ l.length)]; simp
      · refine hj _ (fun h => ?_) (fun h => ?_)
        · have h := of_decide_eq_true h
          rw [e, decide_eq_false (by omega : ¬ l.length ≤ 2000)]; simp
        · have h := of_decide_eq_false h
          refine ⟨by omega, by omega, ?_⟩
          rw [e, decide_eq_true (by omega), decide_eq_true (by omega), decide_eq_true (by omega), decide_eq_true (by omega)]
          rfl

theorem rv_loop (R : Int) (l : List S33) (hn : l.length ≤ 2000) : ∀ (d i : Nat), i + d = l.length → Ev (fun k => standstillref06_Valid.l0 k (i : Int) R l) ((l.drop i).all (okIb R l.length)) := by
  intro d
  induction d with
  | zero =>
    intro i hi
    rw [Ev_succ]
    simp only [standstillref06_Valid.l0, Ev_ite, Ev_some, Ev_none]
    rw [if_neg (by omega), List.drop_eq_nil_of_le (by omega)]
    rfl
  | succ d ih =>
    intro i hi
    have hlt : i < l.length := by omega
    have ih := ih (i + 1) (by omega)
    rw [drop_cons l i hlt, List.all_cons, Ev_succ]
    simp only [standstillref06_Valid.l0, Ev_ite, Ev_some, Ev_none]
    rw [if_pos (by omega), if_pos (by omega), rdT l i hlt]
    have hw : wrap64 ((i : Int) + 1) = ((i + 1 : Nat) : Int) := by rw [wrap_id (by omega) (by omega)]; omega
    have hgo : okI R l.length l[i] → Ev (fun k => standstillref06_Valid.l0 k (wrap64 ((i : Int) + 1)) R l) (okIb R l.length l[i] && (l.drop (i + 1)).all (okIb R l.length)) := by
      intro h
      rw [hw, okIb, decide_eq_true h, Bool.true_and]
      exact ih
    have hno : ¬ okI R l.length l[i] → (false = (okIb R l.length l[i] && (l.drop (i + 1)).all (okIb R l.length))) := by
      intro h
      rw [okIb, decide_eq_false h, Bool.false_and]
    generalize hx : l[i] = x at hgo hno ⊢
    obtain ⟨f0, f1, f2, f3⟩ := x
    simp only [okI] at hgo hno
    have hi : ∀ a : Int, standstillref06_index.f R l a = some (decide (0 ≤ a ∧ a < l.length)) := by
      intro a
      unfold standstillref06_index.f
      by_cases h : a ≥ 0
      · rw [if_pos h]; simp [h]
      · rw [if_neg h, decide_eq_false (by omega)]
    simp only [hi, Option.bind_some, Ev_ite, Ev_some]
    repeat' split
    all_goals first | (refine hgo ?_; simp_all; omega) | (refine hno ?_; simp_all; omega) | (exfalso; simp_all; omega) | (refine hgo ?_; simp_all; done) | (refine hno ?_; simp_all; done)

theorem ref_Valid_ev (R : Int) (l : List S33) (hb : l.length * 32 ≤ 140737488351232) : Ev (fun k => standstillref06_Valid.f k R l) (okC R l) := by
  have hj : ∀ b, (b = true → okC R l = false) → (b = false → l.length ≤ 2000 ∧ okC R l = l.all (okIb R l.length)) → Ev (fun k => standstillref06_Valid.j0 k b R l) (okC R l) := by
    intro b h1 h2
    rw [Ev_succ]
    simp only [standstillref06_Valid.j0, Ev_ite, Ev_some]
    cases b with
    | true => rw [if_pos rfl, h1 rfl]
    | false =>
      obtain ⟨h3, h5⟩ := h2 rfl
      rw [if_neg (by simp), h5]
      exact rv_loop R l h3 l.length 0 (by omega)
  unfold standstillref06_Valid.f
  simp only [Ev_ite]
  have e : okC R l = (decide (1 ≤ R) && decide (R ≤ 16) && decide (1 ≤ l.length) && decide (l.length ≤ 2000) && l.all (okIb R l.length)) := rfl
  split
  · refine hj _ (fun _ => ?_) (fun h => by cases h)
    rw [e, decide_eq_false (by omega)]; rfl
  · split
    · refine hj _ (fun _ => ?_) (fun h => by cases h)
      rw [e, decide_eq_false (by omega : ¬ R ≤ 16)]; simp
    · split
      · refine hj _ (fun _ => ?_) (fun h => by cases h)
        rw [e, decide_eq_false (by omega : ¬ 1 ≤ l.length)]; simp
      · refine hj _ (fun h => ?_) (fun h => ?_)
        · have h := of_decide_eq_true h
          rw [e, decide_eq_false (by omega : ¬ l.length ≤ 2000)]; simp
        · have h := of_decide_eq_false h
          refine ⟨by omega, ?_⟩
          rw [e, decide_eq_true (by omega), decide_eq_true (by omega), decide_eq_true (by omega), decide_eq_true (by omega)]
          rfl
theorem okC_true {R : Int} {l : List S33} (h : okC R l = true) : 1 ≤ R ∧ R ≤ 16 ∧ 1 ≤ l.length ∧ l.length ≤ 2000 ∧ ∀ x ∈ l, okI R l.length x := by
  simp only [okC, okIb, Bool.and_eq_true, decide_eq_true_eq, List.all_eq_true] at h
  exact ⟨h.1.1.1.1, h.1.1.1.2, h.1.1.2, h.1.2, h.2⟩
theorem okC_mk {R : Int} {l : List S33} (h : 1 ≤ R ∧ R ≤ 16 ∧ 1 ≤ l.length ∧ l.length ≤ 2000 ∧ ∀ x ∈ l, okI R l.length x) : okC R l = true := by
  simp only [okC, okIb, Bool.and_eq_true, decide_eq_true_eq, List.all_eq_true]
  exact ⟨⟨⟨⟨h.1, h.2.1⟩, h.2.2.1⟩, h.2.2.2.1⟩, h.2.2.2.2⟩


theorem getD_lt {α : Type} (l : List α) {i : Nat} (d : α) (h : i < l.length) : l.getD i d = l[i] := by
  simp [List.getD_eq_getElem?_getD, h]
theorem okC_ne {R : Int} {l : List S33} (h : okC R l = true) : ∀ i : Nat, i < l.length → okI R l.length (l.getD i z33) := by
  intro i hi
  rw [getD_lt _ _ hi]
  exact (okC_true h).2.2.2.2 _ (List.getElem_mem hi)
/-! A state fits. -/
def regOk (x : Int) : Bool := decide (0 ≤ x) && decide (x ≤ 1152921504606846976)
def okF (R : Int) (l : List S33) (p : Int) (r : List Int) : Bool := okC R l && (decide (0 ≤ p) && decide (p < l.length) && decide ((r.length : Int) = R) && r.all regOk)
theorem cf_loop (r : List Int) (hn : r.length ≤ 100000000) : ∀ (d i : Nat), i + d = r.length → Ev (fun k => counter_fits.l0 k r (r.length : Int) (i : Int)) ((r.drop i).all regOk) := by
  intro d
  induction d with
  | zero =>
    intro i hi
    rw [Ev_succ]
    simp only [counter_fits.l0, Ev_ite, Ev_some, Ev_none]
    rw [if_neg (by omega), List.drop_eq_nil_of_le (by omega)]
    rfl
  | succ d ih =>
    intro i hi
    have hlt : i < r.length := by omega
    have ih := ih (i + 1) (by omega)
    rw [drop_cons r i hlt, List.all_cons, Ev_succ]
    simp only [counter_fits.l0, Ev_ite, Ev_some, Ev_none]
    have hw : wrap64 ((i : Int) + 1) = ((i + 1 : Nat) : Int) := by rw [wrap_id (by omega) (by omega)]; omega
    rw [if_pos (by omega), if_pos (by omega), if_pos (by omega), rd_nat r i hlt, hw]
    by_cases h0 : r[i] < 0
    · rw [if_pos h0, regOk, decide_eq_false (by omega)]; rfl
    · rw [if_neg h0]
      by_cases h1 : r[i] > 1152921504606846976
      · rw [if_pos h1, regOk, decide_eq_true (by omega), decide_eq_false (by omega)]; rfl
      · rw [if_neg h1, regOk, decide_eq_true (by omega), decide_eq_true (by omega)]
        exact ih
theorem rf_loop (r : List Int) (p : Int) (hn : r.length ≤ 100000000) : ∀ (d i : Nat), i + d = r.length → Ev (fun k => standstillref06_Fits.l0 k (i : Int) p r) ((r.drop i).all regOk) := by
  intro d
  induction d with
  | zero =>
    intro i hi
    rw [Ev_succ]
    simp only [standstillref06_Fits.l0, Ev_ite, Ev_some, Ev_none]
    rw [if_neg (by omega), List.drop_eq_nil_of_le (by omega)]
    rfl
  | succ d ih =>
    intro i hi
    have hlt : i < r.length := by omega
    have ih := ih (i + 1) (by omega)
    rw [drop_cons r i hlt, List.all_cons, Ev_succ]
    simp only [standstillref06_Fits.l0, Ev_ite, Ev_some, Ev_none]
    have hw : wrap64 ((i : Int) + 1) = ((i + 1 : Nat) : Int) := by rw [wrap_id (by omega) (by omega)]; omega
    rw [if_pos (by omega), if_pos (by omega), rd_nat r i hlt, hw]
    by_cases h0 : r[i] < 0
    · rw [if_pos h0, regOk, decide_eq_false (by omega)]; rfl
    · rw [if_neg h0]
      by_cases h1 : r[i] > 1152921504606846976
      · rw [if_pos h1, regOk, decide_eq_true (by omega), decide_eq_false (by omega)]; rfl
      · rw [if_neg h1, regOk, decide_eq_true (by omega), decide_eq_true (by omega)]
        exact ih
theorem counter_Fits_ev (R : Int) (l : List S33) (p : Int) (r : List Int) (hb : l.length * 32 ≤ 140737488351232) : Ev (fun k => counter_Fits.f k R l p r) (okF R l p r) := by
  unfold counter_Fits.f
  rw [Ev_bind (counter_Valid_ev R l hb)]
  simp only [Ev_ite, Ev_some]
  by_cases hv : okC R l = true
  · rw [if_pos hv]
    have h16 := (okC_true hv).2.1
    have key : Ev (fun k => counter_fits.f k R l p r) (okF R l p r) := by
      unfold counter_fits.f okF
      rw [hv, Bool.true_and]
      simp only [Ev_ite]
      have hj : ∀ b, (b = true → ¬ (0 ≤ p ∧ p < l.length ∧ (r.length : Int) = R)) → (b = false → 0 ≤ p ∧ p < l.length ∧ (r.length : Int) = R) → Ev (fun k => counter_fits.j0 k b p r) (decide (0 ≤ p) && decide (p < l.length) && decide ((r.length : Int) = R) && r.all regOk) := by
        intro b h1 h2
        rw [Ev_succ]
        simp only [counter_fits.j0, Ev_ite, Ev_some]
        cases b with
        | true =>
          rw [if_pos rfl]
          have := h1 rfl
          by_cases c1 : 0 ≤ p
          · by_cases c2 : p < l.length
            · rw [decide_eq_false (by omega : ¬ ((r.length : Int) = R))]; simp
            · rw [decide_eq_false c2]; simp
          · rw [decide_eq_false c1]; simp
        | false =>
          obtain ⟨c1, c2, c3⟩ := h2 rfl
          rw [if_neg (by simp), decide_eq_true c1, decide_eq_true c2, decide_eq_true c3]
          exact cf_loop r (by omega) r.length 0 (by omega)
      split
      · exact hj _ (fun _ => by omega) (fun h => by cases h)
      · split
        · exact hj _ (fun _ => by omega) (fun h => by cases h)
        · exact hj _ (fun h => by simp at h; omega) (fun h => by simp at h; omega)
    rw [Ev_bind key, Ev_some]
  · rw [if_neg hv]
    simp only [okF, Bool.eq_false_iff.2 hv, Bool.false_and]
theorem ref_Fits_ev (R : Int) (l : List S33) (p : Int) (r : List Int) (hb : l.length * 32 ≤ 140737488351232) : Ev (fun k => standstillref06_Fits.f k R l p r) (okF R l p r) := by
  unfold standstillref06_Fits.f
  rw [Ev_bind (ref_Valid_ev R l hb)]
  have hi : standstillref06_index.f R l p = some (decide (0 ≤ p ∧ p < l.length)) := by
    unfold standstillref06_index.f
    by_cases h : p ≥ 0
    · rw [if_pos h]; simp [h]
    · rw [if_neg h, decide_eq_false (by omega)]
  simp only [hi, Option.bind_some, Ev_ite, decide_eq_true_eq]
  have hj : ∀ b, (b = true → okF R l p r = false) → (b = false → r.length ≤ 100000000 ∧ okF R l p r = r.all regOk) → Ev (fun k => standstillref06_Fits.j0 k b p r) (okF R l p r) := by
    intro b h1 h2
    rw [Ev_succ]
    simp only [standstillref06_Fits.j0, Ev_ite, Ev_some]
    cases b with
    | true => rw [if_pos rfl, h1 rfl]
    | false =>
      obtain ⟨c1, c2⟩ := h2 rfl
      rw [if_neg (by simp), c2]
      exact rf_loop r p c1 r.length 0 (by omega)
  by_cases hv : okC R l = true
  · have h16 := (okC_true hv).2.1
    rw [if_pos hv]
    by_cases hp : 0 ≤ p ∧ p < l.length
    · rw [if_pos hp]
      refine hj _ (fun h => ?_) (fun h => ?_)
      · have h : ¬ (r.length : Int) = R := by simp at h; omega
        simp [okF, decide_eq_false h]
      · have h : (r.length : Int) = R := by simp at h; omega
        refine ⟨by omega, ?_⟩
        rw [okF, hv, decide_eq_true hp.1, decide_eq_true hp.2, decide_eq_true h]
        rfl
    · rw [if_neg hp]
      refine hj _ (fun _ => ?_) (fun h => by cases h)
      by_cases c1 : 0 ≤ p
      · simp [okF, decide_eq_false (show ¬ p < l.length by omega)]
      · simp [okF, decide_eq_false c1]
  · rw [if_neg hv]
    refine hj _ (fun _ => ?_) (fun h => by cases h)
    simp only [okF, Bool.eq_false_iff.2 hv, Bool.false_and]
theorem okF_true {R : Int} {l : List S33} {p : Int} {r : List Int} (h : okF R l p r = true) : okC R l = true ∧ 0 ≤ p ∧ p < l.length ∧ (r.length : Int) = R ∧ ∀ x ∈ r, 0 ≤ x ∧ x ≤ 1152921504606846976 := by
  simp only [okF, regOk, Bool.and_eq_true, decide_eq_true_eq, List.all_eq_true] at h
  exact ⟨h.1, h.2.1.1.1, h.2.1.1.2, h.2.1.2, h.2.2⟩
theorem okF_mk {R : Int} {l : List S33} {p : Int} {r : List Int} (h : okC R l = true ∧ 0 ≤ p ∧ p < l.length ∧ (r.length : Int) = R ∧ ∀ x ∈ r, 0 ≤ x ∧ x ≤ 1152921504606846976) : okF R l p r = true := by
  simp only [okF, regOk, Bool.and_eq_true, decide_eq_true_eq, List.all_eq_true]
  exact ⟨h.1, ⟨⟨h.2.1, h.2.2.1⟩, h.2.2.2.1⟩, h.2.2.2.2⟩
theorem getD_set {α : Type} (l : List α) (i j : Nat) (v d : α) : (l.set i v).getD j d = if i = j ∧ j < l.length then v else l.getD j d := by
  simp only [List.getD_eq_getElem?_getD, List.getElem?_set]
  by_cases h : i = j
  · subst h
    by_cases h2 : i < l.length
    · simp [h2]
    · simp [h2]
  · simp [h]
theorem mem_getD {l : List Int} {i : Nat} (h : i < l.length) : l.getD i 0 ∈ l := by
  rw [getD_lt _ _ h]; exact List.getElem_mem h
/-- What Run answers. -/
def runOut (l : List S33) (d : Nat) (p : Int) (r : List Int) : Option (Int × List Int × Int × Int) := (crun l d p r 0).bind fun z => if z.2.2.2 = true then some (z.1, z.2.1, z.2.2.1, 0) else some (0, [], 0, 4)
theorem counter_Run_ev {R : Int} {l : List S33} {p : Int} {r : List Int} {n : Int} {z : Int × List Int × Int × Int} (hb : l.length * 32 ≤ 140737488351232) (hF : okF R l p r = true) (h0 : 0 ≤ n) (h1 : n ≤ 1000000) (hz : runOut l n.toNat p r = some z) : Ev (fun k => counter_Run.f k R l p r n) z := by
  unfold counter_Run.f
  rw [Ev_bind (counter_Fits_ev R l p r hb)]
  obtain ⟨hC, _, _, hl, _⟩ := okF_true hF
  have := (okC_true hC).2.1
  rw [hF]
  simp only [if_true, Ev_ite]
  rw [if_neg (by omega), if_neg (by omega), if_pos (by omega), Ev_const]
  exact hz


def jA (n : Int) (x : S33) : S33 := if x.f0 = 2 then ⟨0, 0, n, 0⟩ else x
def halts (l : List S33) : Bool := l.any (fun x => decide (x.f0 = 2))
theorem halts_cons (x : S33) (l : List S33) : halts (x :: l) = (decide (x.f0 = 2) || halts l) := rfl
def jB (c : Int) (x : S33) : S33 := if x.f0 = 2 then x else if x.f0 = 1 then ⟨x.f0, x.f1, wrap64 (x.f2 + c), wrap64 (x.f3 + c)⟩ else ⟨x.f0, x.f1, wrap64 (x.f2 + c), x.f3⟩
def first1 (b : Bool) (n : Int) (l : List S33) : List S33 := if b = true then l ++ [⟨1, 0, wrap64 (n + 1), wrap64 (n + 1)⟩] else l
def firstN (b : Bool) (n : Int) : Int := if b = true then wrap64 (n + 1) else n
def outJ (R : Int) (l : List S33) : Int × List S33 × Int := if (l.length : Int) > 2000 then (0, [], 4) else (R, l, 0)

theorem cj_l1 (c : Int) (l : List S33) (R : Int) (hn : l.length ≤ 2000) : ∀ (d i : Nat) (acc : List S33), i + d = l.length → acc.length ≤ 4001 + i → Ev (fun k => counter_Join.l1 k c l (l.length : Int) (i : Int) R acc) (outJ R (acc ++ (l.drop i).map (jB c))) := by
  intro d
  induction d with
  | zero =>
    intro i acc hi ha
    rw [Ev_succ]
    simp only [counter_Join.l1, Ev_ite, Ev_some, Ev_none]
    rw [if_neg (by omega), List.drop_eq_nil_of_le (by omega), List.map_nil, List.append_nil]
    unfold outJ
    split <;> rfl
  | succ d ih =>
    intro i acc hi ha
    have hlt : i < l.length := by omega
    have hw : wrap64 ((i : Int) + 1) = ((i + 1 : Nat) : Int) := by rw [wrap_id (by omega) (by omega)]; omega
    have key : ∀ y, jB c l[i] = y → Ev (fun k => counter_Join.l1 k c l (l.length : Int) (wrap64 ((i : Int) + 1)) R (acc ++ [y])) (outJ R (acc ++ (l.drop i).map (jB c))) := by
      intro y hy
      have := ih (i + 1) (acc ++ [y]) (by omega) (by simp; omega)
      rw [hw]
      rw [drop_cons l i hlt, List.map_cons, hy]
      simpa using this
    rw [Ev_succ]
    simp only [counter_Join.l1, Ev_ite, Ev_some, Ev_none]
    rw [if_pos (by omega), if_pos (by omega), if_pos (by omega), rdT l i hlt]
    have hlim : acc.length < 4398046511104 := by omega
    simp only [if_pos hlim]
    generalize l[i] = x at key ⊢
    obtain ⟨f0, f1, f2, f3⟩ := x
    simp only
    simp only [jB] at key
    repeat' split
    all_goals first | (exfalso; omega) | (refine key _ ?_; simp_all)
theorem cj_l0 (n : Int) (l1 l2 : List S33) (R2 R : Int) (hn : (l1.length : Int) = n) (h1 : l1.length ≤ 2000) (h2 : l2.length ≤ 2000) : ∀ (d i : Nat) (b : Bool) (acc : List S33), i + d = l1.length → acc.length = i →
    Ev (fun k => counter_Join.l0 k n b l1 (l1.length : Int) (i : Int) R2 l2 R acc) (outJ R (first1 (b || halts (l1.drop i)) n (acc ++ (l1.drop i).map (jA n)) ++ l2.map (jB (firstN (b || halts (l1.drop i)) n)))) := by
  intro d
  induction d with
  | zero =>
    intro i b acc hi ha
    rw [Ev_succ]
    simp only [counter_Join.l0, Ev_ite, Ev_some, Ev_none]
    have hlim : acc.length < 4398046511104 := by omega
    rw [if_neg (by omega), List.drop_eq_nil_of_le (by omega), List.map_nil, List.append_nil]
    have e : halts ([] : List S33) = false := rfl
    rw [e, Bool.or_false]
    cases b with
    | true =>
      rw [if_pos rfl, if_pos hlim, Ev_succ]
      simp only [counter_Join.j2]
      have := cj_l1 (wrap64 (n + 1)) l2 R h2 l2.length 0 (acc ++ [⟨1, 0, wrap64 (n + 1), wrap64 (n + 1)⟩]) (by omega) (by simp; omega)
      simpa [first1, firstN] using this
    | false =>
      rw [if_neg (by simp), Ev_succ]
      simp only [counter_Join.j2]
      have := cj_l1 n l2 R h2 l2.length 0 acc (by omega) (by omega)
      simpa [first1, firstN] using this
  | succ d ih =>
    intro i b acc hi ha
    have hlt : i < l1.length := by omega
    have hw : wrap64 ((i : Int) + 1) = ((i + 1 : Nat) : Int) := by rw [wrap_id (by omega) (by omega)]; omega
    have hlim : acc.length < 4398046511104 := by omega
    rw [Ev_succ]
    simp only [counter_Join.l0, Ev_ite, Ev_some, Ev_none]
    rw [if_pos (by omega), if_pos (by omega), if_pos (by omega), rdT l1 i hlt, hw]
    simp only [if_pos hlim]
    rw [drop_cons l1 i hlt, List.map_cons]
    by_cases h : l1[i].f0 = 2
    · rw [if_pos h]
      have := ih (i + 1) true (acc ++ [⟨0, 0, n, 0⟩]) (by omega) (by simp; omega)
      have e : halts (l1[i] :: l1.drop (i + 1)) = true  := by rw [halts_cons, decide_eq_true h]; rfl
      have e2 : jA n l1[i] = ⟨0, 0, n, 0⟩ := by simp [jA, h]
      rw [e, e2, Bool.or_true]
      simpa using this
    · rw [if_neg h]
      have := ih (i + 1) b (acc ++ [l1[i]]) (by omega) (by simp; omega)
      have e : halts (l1[i] :: l1.drop (i + 1)) = halts (l1.drop (i + 1)) := by rw [halts_cons, decide_eq_false h]; rfl
      have e2 : jA n l1[i] = l1[i] := by simp [jA, h]
      rw [e, e2]
      simpa using this
/-- The joined code. -/
def joined (l1 l2 : List S33) : List S33 := first1 (halts l1) l1.length (l1.map (jA l1.length)) ++ l2.map (jB (firstN (halts l1) l1.length))
theorem counter_Join_ev (R1 : Int) (l1 : List S33) (R2 : Int) (l2 : List S33) (hb1 : l1.length * 32 ≤ 140737488351232) (hb2 : l2.length * 32 ≤ 140737488351232) :
    Ev (fun k => counter_Join.f k R1 l1 R2 l2) (if okC R1 l1 = true ∧ okC R2 l2 = true then outJ (mx R1 R2) (joined l1 l2) else (0, [], 1)) := by
  unfold counter_Join.f
  rw [Ev_bind (counter_Valid_ev R1 l1 hb1)]
  simp only [Ev_ite]
  by_cases h1 : okC R1 l1 = true
  · rw [if_pos h1, Ev_bind (counter_Valid_ev R2 l2 hb2), Ev_succ]
    simp only [counter_Join.j0, Ev_ite, Ev_some]
    by_cases h2 : okC R2 l2 = true
    · rw [if_neg (by simp [h2]), if_pos ⟨h1, h2⟩]
      obtain ⟨_, _, _, h3, _⟩ := okC_true h1
      obtain ⟨_, _, _, h4, _⟩ := okC_true h2
      have := cj_l0 l1.length l1 l2 R2 (mx R1 R2) rfl h3 h4 l1.length 0 false [] (by omega) rfl
      simpa [joined] using this
    · rw [if_pos (by simp [h2]), if_neg (fun h => h2 h.2)]
  · rw [if_neg h1, Ev_succ]
    simp only [counter_Join.j0, Ev_ite, Ev_some]
    rw [if_pos trivial, if_neg (fun h => h1 h.1)]

theorem joined_length (l1 l2 : List S33) : (joined l1 l2).length = l1.length + (if halts l1 = true then 1 else 0) + l2.length := by
  unfold joined first1
  split <;> simp <;> omega
theorem joined_ok (R1 R2 : Int) (l1 l2 : List S33) (h1 : okC R1 l1 = true) (h2 : okC R2 l2 = true) (hl : (joined l1 l2).length ≤ 2000) : okC (mx R1 R2) (joined l1 l2) = true := by
  obtain ⟨a1, a2, a3, a4, a5⟩ := okC_true h1
  obtain ⟨b1, b2, b3, b4, b5⟩ := okC_true h2
  have hm1 : R1 ≤ mx R1 R2 := by unfold mx; omega
  have hm2 : R2 ≤ mx R1 R2 := by unfold mx; omega
  have hm3 : mx R1 R2 ≤ 16 := by unfold mx; omega
  have hlen := joined_length l1 l2
  refine okC_mk ⟨by omega, hm3, by omega, hl, ?_⟩
  have hw : wrap64 ((l1.length : Int) + 1) = l1.length + 1 := wrap_id (by omega) (by omega)
  have hA : ∀ x ∈ l1.map (jA l1.length), okI (mx R1 R2) (joined l1 l2).length x := by
    intro x hx
    obtain ⟨y, hy, rfl⟩ := List.mem_map.1 hx
    have hk := a5 y hy
    unfold okI at hk
    unfold jA
    split
    · rename_i h
      have hh : halts l1 = true := by
        unfold halts
        rw [List.any_eq_true]
        exact ⟨y, hy, decide_eq_true h⟩
      rw [hh] at hlen
      simp at hlen
      simp only [okI, and_true, true_and]
      omega
    · simp only [okI]
      omega
  have hB : ∀ x ∈ l2.map (jB (firstN (halts l1) l1.length)), okI (mx R1 R2) (joined l1 l2).length x := by
    intro x hx
    obtain ⟨y, hy, rfl⟩ := List.mem_map.1 hx
    have hk := b5 y hy
    unfold okI at hk
    have hc : firstN (halts l1) l1.length = l1.length + (if halts l1 = true then 1 else 0 : Nat) := by
      unfold firstN
      split
      · rw [hw]; rfl
      · simp
    rw [hc]
    generalize hg : (if halts l1 = true then 1 else 0 : Nat) = g at hlen ⊢
    have hg1 : g ≤ 1 := by rw [← hg]; split <;> omega
    unfold jB
    split
    · simp only [okI]; omega
    · split
      · simp only [okI]
        rw [wrap_id (by omega) (by omega), wrap_id (by omega) (by omega)]
        omega
      · simp only [okI]
        rw [wrap_id (by omega) (by omega)]
        omega
  intro x hx
  unfold joined at hx
  rcases List.mem_append.1 hx with hx | hx
  · unfold first1 at hx
    split at hx
    · rename_i hh
      rcases List.mem_append.1 hx with hx | hx
      · exact hA x hx
      · obtain rfl := List.mem_singleton.1 hx
        rw [hh] at hlen
        simp at hlen
        simp only [okI, and_true, true_and]
        rw [hw]
        omega
    · exact hA x hx
  · exact hB x hx



theorem getD_append_l {α : Type} (l t : List α) (d : α) {i : Nat} (h : i < l.length) : (l ++ t).getD i d = l.getD i d := by
  simp [List.getD, List.getElem?_append_left h]
theorem rd_append (l t : List Int) (i : Int) (h0 : 0 ≤ i) (h : i < (l.length : Int)) : rd (l ++ t) i = rd l i := by
  unfold rd
  exact getD_append_l l t 0 (by omega)
theorem set_append_l {α : Type} (l t : List α) (v : α) {i : Nat} (h : i < l.length) : (l ++ t).set i v = l.set i v ++ t := by
  rw [List.set_append]
  rw [if_pos h]
def okRegs (R : Nat) (r : List Int) : Prop := r.length = R ∧ ∀ x ∈ r, 0 ≤ x ∧ x ≤ 1152921504606846976
theorem okRegs_set {R : Nat} {r : List Int} (h : okRegs R r) (i : Nat) (v : Int) (h0 : 0 ≤ v) (h1 : v ≤ 1152921504606846976) : okRegs R (r.set i v) := by
  refine ⟨by rw [List.length_set]; exact h.1, fun x hx => ?_⟩
  rcases List.mem_or_eq_of_mem_set hx with h2 | h2
  · exact h.2 x h2
  · omega
theorem okRegs_rd {R : Nat} {r : List Int} (h : okRegs R r) (i : Int) (h0 : 0 ≤ i) (h1 : i < (R : Int)) : 0 ≤ rd r i ∧ rd r i ≤ 1152921504606846976 := by
  unfold rd
  have hl := h.1
  exact h.2 _ (mem_getD (by omega))
/-- J does, from c on, what the code does: what is told of an instruction that is no Halt. -/
def Emb (J code : List S33) (c : Nat) : Prop := ∀ i : Nat, i < code.length → c + i < J.length ∧ ((code.getD i z33).f0 ≠ 2 →
  (J.getD (c + i) z33).f0 = (code.getD i z33).f0 ∧ (J.getD (c + i) z33).f1 = (code.getD i z33).f1 ∧ (J.getD (c + i) z33).f2 = (code.getD i z33).f2 + c ∧ ((code.getD i z33).f0 = 1 → (J.getD (c + i) z33).f3 = (code.getD i z33).f3 + c))
theorem crun_emb {J code : List S33} {R c : Nat} (hC : ∀ i : Nat, i < code.length → okI R code.length (code.getD i z33)) (hJ : Emb J code c) : ∀ (D : Nat) (p : Int) (r : List Int) (i : Int), 0 ≤ p → p < code.length → okRegs R r →
    ∃ z, crun code D p r i = some z ∧ (z.2.2.2 = true → 0 ≤ z.1 ∧ z.1 < code.length ∧ okRegs R z.2.1 ∧ ∃ m : Nat, z.2.2.1 = i + m ∧ m ≤ D ∧
      ∀ (tail : List Int) (d : Nat) (j : Int), crun J (m + d) (c + p) (r ++ tail) j = crun J d (c + z.1) (z.2.1 ++ tail) (j + m)) := by
  intro D
  induction D with
  | zero =>
    intro p r i h0 h1 hr
    refine ⟨_, rfl, fun _ => ⟨h0, h1, hr, 0, by simp, Nat.le_refl _, fun tail d j => by simp⟩⟩
  | succ D ih =>
    intro p r i h0 h1 hr
    obtain ⟨q, rfl⟩ := Int.eq_ofNat_of_zero_le h0
    have hq : q < code.length := by omega
    have hk := hC q hq
    obtain ⟨hj0, hj⟩ := hJ q hq
    have er : rd_T33 code (q : Int) = code.getD q z33 := by simp [rd_T33]
    have ej : rd_T33 J ((c : Int) + (q : Int)) = J.getD (c + q) z33 := by
      have : ((c : Int) + (q : Int)).toNat = c + q := by omega
      simp [rd_T33, this]
    have hstep : ∀ (d : Nat) (tail : List Int) (j : Int), crun J (d + 1) ((c : Int) + (q : Int)) (r ++ tail) j = crun J (d + 1) ((c : Int) + (q : Int)) (r ++ tail) j := fun _ _ _ => rfl
    simp only [crun]
    rw [if_pos ⟨h0, h1⟩, er]
    generalize hx : code.getD q z33 = x at hk hj er
    generalize hy : J.getD (c + q) z33 = y at hj ej
    have hl := hr.1
    have stay : ∀ z : Int × List Int × Int × Bool, z = (((q : Nat) : Int), r, i, true) → ∃ z', some z = some z' ∧ (z'.2.2.2 = true → 0 ≤ z'.1 ∧ z'.1 < code.length ∧ okRegs R z'.2.1 ∧ ∃ m : Nat, z'.2.2.1 = i + m ∧ m ≤ D + 1 ∧
      ∀ (tail : List Int) (d : Nat) (j : Int), crun J (m + d) (c + q) (r ++ tail) j = crun J d (c + z'.1) (z'.2.1 ++ tail) (j + m)) := by
      rintro z rfl
      exact ⟨_, rfl, fun _ => ⟨h0, h1, hr, 0, by simp, by omega, fun tail d j => by simp⟩⟩
    rcases hk with ⟨e0, e1, e2, e3⟩ | ⟨e0, e1, e2, e3, e4, e5⟩ | ⟨e0, e1, e2, e3, e4, e5, e6⟩
    · rw [if_pos e0]
      exact stay _ rfl
    · obtain ⟨j0, j1, j2, _⟩ := hj (by omega)
      have hv := okRegs_rd hr x.f1 e1 e2
      rw [if_neg (by omega), if_pos ⟨e1, by omega⟩, if_pos e0]
      by_cases hb : rd r x.f1 = 1152921504606846976
      · rw [if_pos hb]
        exact ⟨_, rfl, fun h => by cases h⟩
      · rw [if_neg hb, wrap_id (by omega) (by omega)]
        have hr2 := okRegs_set hr x.f1.toNat (rd r x.f1 + 1) (by omega) (by omega)
        obtain ⟨z, hz, hz2⟩ := ih x.f2 (r.set x.f1.toNat (rd r x.f1 + 1)) (i + 1) e3 e4 hr2
        refine ⟨z, hz, fun ht => ?_⟩
        obtain ⟨b1, b2, b3, m, b4, b5, b6⟩ := hz2 ht
        refine ⟨b1, b2, b3, m + 1, by rw [b4]; push_cast; omega, by omega, fun tail d j => ?_⟩
        have em : m + 1 + d = (m + d) + 1 := by omega
        rw [em]
        simp only [crun]
        rw [if_pos ⟨by omega, by omega⟩, ej, j0, j1, j2, if_neg (by omega), if_pos ⟨e1, by rw [List.length_append]; omega⟩, if_pos e0, rd_append r tail _ e1 (by omega), if_neg hb, wrap_id (by omega) (by omega), set_append_l r tail _ (by omega), Int.add_comm x.f2, b6 tail d (j + 1)]
        have e7 : j + 1 + (m : Int) = j + ((m + 1 : Nat) : Int) := by push_cast; omega
        rw [e7]
    · obtain ⟨j0, j1, j2, j3⟩ := hj (by omega)
      have hv := okRegs_rd hr x.f1 e1 e2
      rw [if_neg (by omega), if_pos ⟨e1, by omega⟩, if_neg (by omega), if_pos e0]
      by_cases hb : rd r x.f1 = 0
      · rw [if_pos hb]
        obtain ⟨z, hz, hz2⟩ := ih x.f3 r (i + 1) e5 e6 hr
        refine ⟨z, hz, fun ht => ?_⟩
        obtain ⟨b1, b2, b3, m, b4, b5, b6⟩ := hz2 ht
        refine ⟨b1, b2, b3, m + 1, by rw [b4]; push_cast; omega, by omega, fun tail d j => ?_⟩
        have em : m + 1 + d = (m + d) + 1 := by omega
        rw [em]
        simp only [crun]
        rw [if_pos ⟨by omega, by omega⟩, ej, j0, j1, j3 e0, if_neg (by omega), if_pos ⟨e1, by rw [List.length_append]; omega⟩, if_neg (by omega), if_pos e0, rd_append r tail _ e1 (by omega), if_pos hb, Int.add_comm x.f3, b6 tail d (j + 1)]
        have e7 : j + 1 + (m : Int) = j + ((m + 1 : Nat) : Int) := by push_cast; omega
        rw [e7]
      · rw [if_neg hb, wrap_id (by omega) (by omega)]
        have hr2 := okRegs_set hr x.f1.toNat (rd r x.f1 - 1) (by omega) (by omega)
        obtain ⟨z, hz, hz2⟩ := ih x.f2 (r.set x.f1.toNat (rd r x.f1 - 1)) (i + 1) e3 e4 hr2
        refine ⟨z, hz, fun ht => ?_⟩
        obtain ⟨b1, b2, b3, m, b4, b5, b6⟩ := hz2 ht
        refine ⟨b1, b2, b3, m + 1, by rw [b4]; push_cast; omega, by omega, fun tail d j => ?_⟩
        have em : m + 1 + d = (m + d) + 1 := by omega
        rw [em]
        simp only [crun]
        rw [if_pos ⟨by omega, by omega⟩, ej, j0, j1, j2, if_neg (by omega), if_pos ⟨e1, by rw [List.length_append]; omega⟩, if_neg (by omega), if_pos e0, rd_append r tail _ e1 (by omega), if_neg hb, wrap_id (by omega) (by omega), set_append_l r tail _ (by omega), Int.add_comm x.f2, b6 tail d (j + 1)]
        have e7 : j + 1 + (m : Int) = j + ((m + 1 : Nat) : Int) := by push_cast; omega
        rw [e7]
theorem emb_self (code : List S33) : Emb code code 0 := fun i hi => ⟨by omega, fun _ => by simp⟩
theorem okC_ne' {R : Nat} {l : List S33} (h : okC R l = true) : ∀ i : Nat, i < l.length → okI R l.length (l.getD i z33) := okC_ne h
/-- Where a Halt is, a run stays. -/
theorem crun_halt {J : List S33} (d : Nat) (p : Int) (r : List Int) (i : Int) (h0 : 0 ≤ p) (h1 : p < (J.length : Int)) (h : (rd_T33 J p).f0 = 2) : crun J d p r i = some (p, r, i, true) := by
  cases d with
  | zero => rfl
  | succ d => simp only [crun]; rw [if_pos ⟨h0, h1⟩, if_pos h]
theorem firstN_eq {b : Bool} {n : Nat} (hn : n ≤ 2000) : firstN b n = ((n + (if b = true then 1 else 0) : Nat) : Int) := by
  unfold firstN
  cases b with
  | true => simp only [if_true]; rw [wrap_id (by omega) (by omega)]; omega
  | false => simp
theorem joined_emb1 (l1 l2 : List S33) : Emb (joined l1 l2) l1 0 := by
  intro i hi
  have hlen := joined_length l1 l2
  refine ⟨by omega, fun hne => ?_⟩
  have e : (joined l1 l2).getD (0 + i) z33 = jA l1.length (l1.getD i z33) := by
    unfold joined first1
    rw [Nat.zero_add]
    split
    · rw [getD_append_l _ _ _ (by simp; omega), getD_append_l _ _ _ (by simp; omega)]
      simp [List.getD, hi]
    · rw [getD_append_l _ _ _ (by simp; omega)]
      simp [List.getD, hi]
  rw [e]
  unfold jA
  rw [if_neg hne]
  simp
theorem joined_at2 (l1 l2 : List S33) {c : Nat} (hn : l1.length ≤ 2000) (hc : c = l1.length + (if halts l1 = true then 1 else 0)) (i : Nat) (hi : i < l2.length) : (joined l1 l2).getD (c + i) z33 = jB c (l2.getD i z33) := by
  unfold joined
  have hf : (first1 (halts l1) (l1.length : Int) (l1.map (jA l1.length))).length = c := by
    unfold first1
    rw [hc]
    split <;> simp
  have hg := firstN_eq (b := halts l1) hn
  rw [hg, ← hc]
  rw [List.getD, List.getElem?_append_right (by omega), hf, Nat.add_sub_cancel_left]
  simp [hi]
theorem joined_emb2 {R : Nat} (l1 l2 : List S33) {c : Nat} (hn : l1.length ≤ 2000) (hc : c = l1.length + (if halts l1 = true then 1 else 0)) (hC : okC R l2 = true) : Emb (joined l1 l2) l2 c := by
  intro i hi
  have hlen := joined_length l1 l2
  obtain ⟨_, _, _, hl, _⟩ := okC_true hC
  have hk := okC_ne hC i hi
  refine ⟨by omega, fun hne => ?_⟩
  rw [joined_at2 l1 l2 hn hc i hi]
  have hc1 : c ≤ 2001 := by rw [hc]; split <;> omega
  generalize l2.getD i z33 = x at hk hne
  unfold jB
  unfold okI at hk
  rw [if_neg hne]
  split
  · rename_i h
    refine ⟨rfl, rfl, ?_, fun _ => ?_⟩
    · show wrap64 (x.f2 + c) = _
      rw [wrap_id (by omega) (by omega)]
    · show wrap64 (x.f3 + c) = _
      rw [wrap_id (by omega) (by omega)]
  · rename_i h
    refine ⟨rfl, rfl, ?_, fun h2 => absurd h2 h⟩
    show wrap64 (x.f2 + c) = _
    rw [wrap_id (by omega) (by omega)]
theorem set_back (r : List Int) (v : Int) (hr : 0 < r.length) (hv : r.getD 0 0 = v) (u : Int) : (r.set 0 u).set 0 v = r := by
  cases r with
  | nil => simp at hr
  | cons a t => simp at hv; simp [hv]
/-- From the place of a Halt of the first machine the joined one goes to the second one, in two steps. -/
theorem joined_bridge (l1 l2 : List S33) (hn : l1.length ≤ 2000) (p : Nat) (hp : p < l1.length) (h2 : (l1.getD p z33).f0 = 2) (r : List Int) (hr : 0 < r.length) (hv0 : 0 ≤ r.getD 0 0) (hv : r.getD 0 0 < 1152921504606846976) (d : Nat) (j : Int) :
    halts l1 = true ∧ crun (joined l1 l2) (2 + d) (p : Int) r j = crun (joined l1 l2) d ((l1.length : Int) + 1) r (j + 2) := by
  have hh : halts l1 = true := by
    unfold halts
    rw [List.any_eq_true]
    refine ⟨l1[p], List.getElem_mem hp, ?_⟩
    rw [getD_lt _ _ hp] at h2
    exact decide_eq_true h2
  refine ⟨hh, ?_⟩
  have hlen := joined_length l1 l2
  rw [hh] at hlen
  simp only [if_true] at hlen
  have e1 : rd_T33 (joined l1 l2) (p : Int) = ⟨0, 0, l1.length, 0⟩ := by
    have : (joined l1 l2).getD p z33 = jA l1.length (l1.getD p z33) := by
      unfold joined first1
      rw [hh]
      simp only [if_true]
      rw [getD_append_l _ _ _ (by simp; omega), getD_append_l _ _ _ (by simp; omega)]
      simp [List.getD, hp]
    simp only [rd_T33, Int.toNat_natCast, this]
    unfold jA
    rw [if_pos h2]
  have e2 : rd_T33 (joined l1 l2) ((l1.length : Nat) : Int) = ⟨1, 0, (l1.length : Int) + 1, (l1.length : Int) + 1⟩ := by
    have : (joined l1 l2).getD l1.length z33 = ⟨1, 0, (l1.length : Int) + 1, (l1.length : Int) + 1⟩ := by
      unfold joined first1
      rw [hh]
      simp only [if_true]
      rw [getD_append_l _ _ _ (by simp), wrap_id (by omega) (by omega)]
      rw [List.getD, List.getElem?_append_right (by simp)]
      simp
    simp only [rd_T33, Int.toNat_natCast, this]
  have er : rd r 0 = r.getD 0 0 := by simp [rd]
  have e3 : 2 + d = (d + 1) + 1 := by omega
  rw [e3]
  simp only [crun]
  rw [if_pos ⟨by omega, by omega⟩, e1]
  simp only
  rw [if_neg (by decide), if_pos ⟨by omega, by omega⟩, if_pos trivial, er, if_neg (by omega)]
  rw [if_pos ⟨by omega, by omega⟩, e2]
  simp only
  rw [wrap_id (by omega) (by omega)]
  have e4 : rd (r.set (0 : Int).toNat (r.getD 0 0 + 1)) 0 = r.getD 0 0 + 1 := by
    cases r with
    | nil => simp at hr
    | cons a t => simp [rd]
  rw [if_neg (by decide), if_pos ⟨by omega, by rw [List.length_set]; omega⟩, if_neg (by decide), if_pos trivial, e4, if_neg (by omega), wrap_id (by omega) (by omega)]
  have e5 : (r.set (0 : Int).toNat (r.getD 0 0 + 1)).set (0 : Int).toNat (r.getD 0 0 + 1 - 1) = r := by
    have : r.getD 0 0 + 1 - 1 = r.getD 0 0 := by omega
    rw [this]
    exact set_back r _ hr rfl _
  rw [e5]
  have e6 : j + 1 + 1 = j + 2 := by omega
  rw [e6]
theorem wsum {m1 m2 : Nat} (h1 : m1 ≤ 3000) (h2 : m2 ≤ 3000) : wrap64 (wrap64 (0 + (m1 : Int) + (0 + (m2 : Int))) + 2) = 0 + (m1 : Int) + 2 + (m2 : Int) := by
  rw [wrap_id (x := 0 + (m1 : Int) + (0 + (m2 : Int))) (by omega) (by omega), wrap_id (by omega) (by omega)]
  omega

theorem sameCount_loop (q q' : Int) (l : List Int) (hl : l.length ≤ 100000) : ∀ (d i : Nat), i + d = l.length → Ev (fun k => standstillref06_SameCount.l0 k (i : Int) q l q' l) true := by
  intro d
  induction d with
  | zero =>
    intro i hi
    rw [Ev_succ]
    simp only [standstillref06_SameCount.l0, Ev_ite, Ev_none]
    rw [if_neg (by omega)]
    exact Ev.now _
  | succ d ih =>
    intro i hi
    have ih := ih (i + 1) (by omega)
    rw [Ev_succ]
    simp only [standstillref06_SameCount.l0, Ev_ite, Ev_none]
    rw [if_pos (by omega), if_pos (by omega), if_pos (by omega), if_pos trivial, wrap_id (by omega) (by omega)]
    exact ih
theorem sameCount_ev (l : List Int) (hl : l.length ≤ 100000) : Ev (fun k => standstillref06_SameCount.f k 0 l 0 l) true := by
  unfold standstillref06_SameCount.f
  simp only [if_true]
  rw [Ev_succ]
  simp only [standstillref06_SameCount.j0, Ev_ite]
  rw [if_neg (by simp)]
  exact sameCount_loop 0 0 l hl l.length 0 (by omega)
theorem awake_ev : Ev (fun k => standstilllaw06_awake.f k) true := Ev.of (k := 200) standstilllaw06_awake.mono (by decide +kernel)
theorem awake_b : Ev (fun k => (standstilllaw06_awake.f k).bind fun t => some t) true := by
  rw [Ev_bind awake_ev]
  exact Ev.now _
/-- Run on a state that does not fit. -/
theorem counter_Run_bad {R : Int} {l : List S33} {p : Int} {r : List Int} {n : Int} (hb : l.length * 32 ≤ 140737488351232) (hF : okF R l p r = false) : Ev (fun k => counter_Run.f k R l p r n) (0, [], 0, 1) := by
  unfold counter_Run.f
  rw [Ev_bind (counter_Fits_ev R l p r hb), hF]
  exact Ev.now _
theorem okRegs_of {R : Nat} {l : List S33} {p : Int} {r : List Int} (h : okF R l p r = true) : okRegs R r := by
  obtain ⟨_, _, _, h4, h5⟩ := okF_true h
  exact ⟨by omega, h5⟩
section
variable (R1 R2 : Nat) (l1 l2 : List S33) (h1 : okC R1 l1 = true) (h2 : okC R2 l2 = true) (n1 : l1.length ≤ 900) (n2 : l2.length ≤ 900) (hb1 : l1.length * 32 ≤ 140737488351232) (hb2 : l2.length * 32 ≤ 140737488351232)
include h1 h2 n1 n2 hb1 hb2
theorem cjd_j2 (x2 x8 : List Int) (hx : (x8.length : Int) = mx R1 R2) : Ev (fun k => standstilllaw06_CounterJoined.j2 k x8 R1 l1 R2 l2) true := by
  obtain ⟨a1, a2, a3, a4, a5⟩ := okC_true h1
  obtain ⟨b1, b2, b3, b4, b5⟩ := okC_true h2
  have hm1 : (R1 : Int) ≤ mx R1 R2 := by unfold mx; omega
  have hm2 : (R2 : Int) ≤ mx R1 R2 := by unfold mx; omega
  have hm3 : mx R1 R2 ≤ 16 := by unfold mx; omega
  have hm4 : (mx R1 R2 : Int) = R1 ∨ (mx R1 R2 : Int) = R2 := by unfold mx; omega
  rw [Ev_succ]
  simp only [standstilllaw06_CounterJoined.j2, Ev_ite, Ev_none]
  rw [if_pos (by omega), if_pos (by omega), Int.toNat_natCast]
  -- what follows where the first run fails
  have skip1 : ∀ (u v : List Int) (x y x12 : Int), x12 ≠ 0 → Ev (fun k => standstilllaw06_CounterJoined.j3 k u x x12 false R1 l1 R2 l2 y v) true := by
    intro u v x y x12 hne
    rw [Ev_succ]
    simp only [standstilllaw06_CounterJoined.j3, Ev_ite, Ev_none]
    rw [if_neg (by simp), if_neg hne, Ev_succ]
    simp only [standstilllaw06_CounterJoined.j4, Ev_ite]
    rw [if_pos trivial]
    exact awake_b
  cases hF : okF R1 l1 0 (x8.take R1) with
  | false =>
    rw [Ev_bind (counter_Run_bad hb1 hF)]
    simp only [Ev_ite]
    rw [if_neg (by decide)]
    exact skip1 _ _ _ _ _ (by decide)
  | true =>
    have hr1 := okRegs_of hF
    obtain ⟨z, hz, hz2⟩ := crun_emb (okC_ne h1) (joined_emb1 l1 l2) 3000 0 (x8.take R1) 0 (by omega) (by omega) hr1
    obtain ⟨p1, r1, i1, f1⟩ := z
    simp only at hz2
    cases f1 with
    | false =>
      rw [Ev_bind (counter_Run_ev (z := (0, [], 0, 4)) hb1 hF (by omega) (by omega) (by unfold runOut; rw [show (3000 : Int).toNat = 3000 from rfl, hz]; rfl))]
      simp only [Ev_ite]
      rw [if_neg (by decide)]
      exact skip1 _ _ _ _ _ (by decide)
    | true =>
      rw [Ev_bind (counter_Run_ev (z := (p1, r1, i1, 0)) hb1 hF (by omega) (by omega) (by unfold runOut; rw [show (3000 : Int).toNat = 3000 from rfl, hz]; rfl))]
      simp only [if_true]
      obtain ⟨c1, c2, c3, m1, rfl, c5, c6⟩ := hz2 rfl
      have hF1 : okF R1 l1 p1 r1 = true := okF_mk ⟨h1, c1, c2, by have := c3.1; omega, c3.2⟩
      rw [Ev_bind (ref_Fits_ev R1 l1 p1 r1 hb1), hF1, Ev_succ]
      simp only [standstilllaw06_CounterJoined.j3, Ev_ite, Ev_none]
      rw [if_neg (by simp), if_pos trivial, if_pos c1, if_pos c2]
      have j4t : ∀ (x : Int), Ev (fun k => standstilllaw06_CounterJoined.j4 k x8 x true R1 l1 R2 l2 p1 r1) true := by
        intro x
        rw [Ev_succ]
        simp only [standstilllaw06_CounterJoined.j4, Ev_ite]
        rw [if_pos trivial]
        exact awake_b
      by_cases hh : (rd_T33 l1 p1).f0 = 2
      rotate_left
      · rw [if_neg hh]
        exact j4t _
      have hrl := c3.1
      rw [if_pos hh, if_pos (by omega)]
      by_cases hbig : rd r1 0 ≥ 1152921504606846976
      · rw [decide_eq_true hbig]
        exact j4t _
      rw [decide_eq_false hbig, Ev_succ]
      simp only [standstilllaw06_CounterJoined.j4, Ev_ite, Ev_none, Option.bind_some, List.nil_append, List.length_nil, Nat.zero_add, Int.toNat_natCast, Bool.false_eq_true, if_false]
      have hxl : x8.length ≤ 16 := by omega
      rw [if_pos (by omega), if_pos (by omega), if_pos (by omega), if_pos (by rw [List.length_drop]; omega)]
      have hafl : (r1 ++ x8.drop R1).length = x8.length := by rw [List.length_append, List.length_drop]; omega
      generalize haf : r1 ++ x8.drop R1 = after at hafl
      rw [if_pos (by omega), if_pos (by omega)]
      have skip2 : ∀ (u v : List Int) (x y x12 : Int), x12 ≠ 0 → Ev (fun k => standstilllaw06_CounterJoined.j5 k x8 (0 + (m1 : Int)) after x x12 false R1 l1 R2 l2 y v) true := by
        intro u v x y x12 hne
        rw [Ev_succ]
        simp only [standstilllaw06_CounterJoined.j5, Ev_ite, Ev_none]
        rw [if_neg (by simp), if_neg hne, Ev_succ]
        simp only [standstilllaw06_CounterJoined.j6, Ev_ite]
        rw [if_pos trivial]
        exact awake_b
      cases hG : okF R2 l2 0 (after.take R2) with
      | false =>
        rw [Ev_bind (counter_Run_bad hb2 hG)]
        simp only [Ev_ite]
        rw [if_neg (by decide)]
        exact skip2 [] _ _ _ _ (by decide)
      | true =>
        have hr2 := okRegs_of hG
        obtain ⟨c, hc⟩ : ∃ c, c = l1.length + (if halts l1 = true then 1 else 0) := ⟨_, rfl⟩
        obtain ⟨y, hy, hy2⟩ := crun_emb (okC_ne h2) (joined_emb2 l1 l2 (by omega) hc h2) 3000 0 (after.take R2) 0 (by omega) (by omega) hr2
        obtain ⟨p2, r2, i2, f2⟩ := y
        simp only at hy2
        cases f2 with
        | false =>
          rw [Ev_bind (counter_Run_ev (z := (0, [], 0, 4)) hb2 hG (by omega) (by omega) (by unfold runOut; rw [show (3000 : Int).toNat = 3000 from rfl, hy]; rfl))]
          simp only [Ev_ite]
          rw [if_neg (by decide)]
          exact skip2 [] _ _ _ _ (by decide)
        | true =>
          rw [Ev_bind (counter_Run_ev (z := (p2, r2, i2, 0)) hb2 hG (by omega) (by omega) (by unfold runOut; rw [show (3000 : Int).toNat = 3000 from rfl, hy]; rfl))]
          simp only [if_true]
          obtain ⟨d1, d2, d3, m2, rfl, d5, d6⟩ := hy2 rfl
          have hG1 : okF R2 l2 p2 r2 = true := okF_mk ⟨h2, d1, d2, by have := d3.1; omega, d3.2⟩
          rw [Ev_bind (ref_Fits_ev R2 l2 p2 r2 hb2), hG1, Ev_succ]
          simp only [standstilllaw06_CounterJoined.j5, Ev_ite, Ev_none]
          rw [if_neg (by simp), if_pos trivial, if_pos d1, if_pos d2]
          cases hh2 : ((rd_T33 l2 p2).f0 != 2) with
          | true =>
            rw [Ev_succ]
            simp only [standstilllaw06_CounterJoined.j6, Ev_ite]
            rw [if_pos trivial]
            exact awake_b
          | false =>
            have hh2' : (rd_T33 l2 p2).f0 = 2 := by simpa using hh2
            rw [Ev_succ]
            simp only [standstilllaw06_CounterJoined.j6, Ev_ite, Ev_none, Option.bind_some, List.nil_append, List.length_nil, Nat.zero_add, Int.toNat_natCast, Bool.false_eq_true, if_false]
            have hjl := joined_length l1 l2
            have hjl2 : (joined l1 l2).length ≤ 1801 := by rw [hjl]; split <;> omega
            have hJ := counter_Join_ev R1 l1 R2 l2 hb1 hb2
            rw [if_pos ⟨h1, h2⟩, outJ, if_neg (by omega)] at hJ
            rw [Ev_bind hJ]
            simp only
            -- the joined machine's run
            obtain ⟨p, rfl⟩ := Int.eq_ofNat_of_zero_le c1
            obtain ⟨q, rfl⟩ := Int.eq_ofNat_of_zero_le d1
            have hp : p < l1.length := by omega
            have hq : q < l2.length := by omega
            have hd2 := d3.1
            have g2 : (l1.getD p z33).f0 = 2 := by simpa [rd_T33] using hh
            have hrd : rd r1 0 = r1.getD 0 0 := by simp [rd]
            have g3 : 0 ≤ r1.getD 0 0 := (c3.2 _ (mem_getD (by omega))).1
            have hag : after.getD 0 0 = r1.getD 0 0 := by rw [← haf]; exact getD_append_l _ _ _ (by omega)
            have hbr := fun d j => joined_bridge l1 l2 (by omega) p hp g2 after (by omega) (by omega) (by omega) d j
            have hha : halts l1 = true := (hbr 0 0).1
            rw [hha] at hc
            simp only [if_true] at hc
            have hx8 : x8.take R1 ++ x8.drop R1 = x8 := List.take_append_drop _ _
            have hafs : after.take R2 ++ after.drop R2 = after := List.take_append_drop _ _
            have run : crun (joined l1 l2) 10000 0 x8 0 = some ((c : Int) + (q : Int), r2 ++ after.drop R2, 0 + (m1 : Int) + 2 + (m2 : Int), true) := by
              have s1 := c6 (x8.drop R1) (2 + (m2 + (10000 - m1 - 2 - m2))) 0
              rw [hx8, haf] at s1
              have s2 := (hbr (m2 + (10000 - m1 - 2 - m2)) (0 + (m1 : Int))).2
              have s3 := d6 (after.drop R2) (10000 - m1 - 2 - m2) (0 + (m1 : Int) + 2)
              rw [hafs] at s3
              have t1 : (10000 : Nat) = m1 + (2 + (m2 + (10000 - m1 - 2 - m2))) := by omega
              have t2 : ((0 : Nat) : Int) + 0 = 0 := rfl
              have t3 : ((0 : Nat) : Int) + (p : Int) = (p : Int) := by omega
              have t4 : (l1.length : Int) + 1 = (c : Int) + 0 := by omega
              rw [t2, t3] at s1
              rw [t1, s1, s2, t4, s3]
              have g5 : (rd_T33 (joined l1 l2) ((c : Int) + (q : Int))).f0 = 2 := by
                have : ((c : Int) + (q : Int)).toNat = c + q := by omega
                simp only [rd_T33, this]
                rw [joined_at2 l1 l2 (by omega) (by rw [hha]; simpa using hc) q hq]
                have g6 : (l2.getD q z33).f0 = 2 := by simpa [rd_T33] using hh2'
                unfold jB
                rw [if_pos g6]
                exact g6
              rw [hha] at hjl
              simp only [if_true] at hjl
              exact crun_halt _ _ _ _ (by omega) (by omega) g5
            have hall : ∀ x ∈ x8, 0 ≤ x ∧ x ≤ 1152921504606846976 := by
              intro x hx
              rw [← hx8] at hx
              rcases List.mem_append.1 hx with hx | hx
              · exact hr1.2 x hx
              · have : x ∈ after.take R2 := by
                  rcases hm4 with e | e
                  · rw [List.drop_eq_nil_of_le (by omega)] at hx
                    cases hx
                  · rw [List.take_of_length_le (by omega), ← haf]
                    exact List.mem_append_right _ hx
                exact hr2.2 x this
            have hK : okF (mx R1 R2) (joined l1 l2) 0 x8 = true := okF_mk ⟨joined_ok R1 R2 l1 l2 h1 h2 (by omega), by omega, by rw [hha] at hjl; simp only [if_true] at hjl; omega, hx, hall⟩
            rw [Ev_bind (counter_Run_ev (z := ((c : Int) + (q : Int), r2 ++ after.drop R2, 0 + (m1 : Int) + 2 + (m2 : Int), 0)) (by omega) hK (by omega) (by omega) (by unfold runOut; rw [show (10000 : Int).toNat = 10000 from rfl, run]; rfl))]
            simp only
            rw [hha] at hjl
            simp only [if_true] at hjl
            have hdl : (after.drop R2).length = after.length - R2 := List.length_drop
            simp only [Ev_ite, Ev_none]
            rw [if_pos (by omega), if_pos (by omega), if_pos (by omega), if_pos (by omega), if_pos trivial, if_pos trivial, if_pos (wsum c5 d5).symm, if_pos (by omega), if_pos (by omega), if_pos (by omega)]
            have g5 : (rd_T33 (joined l1 l2) ((c : Int) + (q : Int))).f0 = 2 := by
              have : ((c : Int) + (q : Int)).toNat = c + q := by omega
              simp only [rd_T33, this]
              rw [joined_at2 l1 l2 (by omega) (by rw [hha]; simpa using hc) q hq]
              have g6 : (l2.getD q z33).f0 = 2 := by simpa [rd_T33] using hh2'
              unfold jB
              rw [if_pos g6]
              exact g6
            rw [if_pos g5, Ev_bind (sameCount_ev _ (by rw [List.length_append, List.length_drop]; omega))]
            simp only [if_true]
            exact awake_b
theorem cjd_l0 (x2 : List Int) : ∀ (d i : Nat) (x8 : List Int), (i : Int) + d = mx R1 R2 → (x8.length : Int) = mx R1 R2 → Ev (fun k => standstilllaw06_CounterJoined.l0 k x2 (mx R1 R2) x8 (i : Int) R1 l1 R2 l2) true := by
  obtain ⟨a1, a2, a3, a4, a5⟩ := okC_true h1
  obtain ⟨b1, b2, b3, b4, b5⟩ := okC_true h2
  have hm3 : mx R1 R2 ≤ 16 := by unfold mx; omega
  intro d
  induction d with
  | zero =>
    intro i x8 hi hx
    rw [Ev_succ]
    simp only [standstilllaw06_CounterJoined.l0, Ev_ite, Ev_none]
    rw [if_neg (by omega)]
    exact cjd_j2 R1 R2 l1 l2 h1 h2 n1 n2 hb1 hb2 x2 x8 hx
  | succ d ih =>
    intro i x8 hi hx
    rw [Ev_succ]
    simp only [standstilllaw06_CounterJoined.l0, Ev_ite, Ev_none]
    rw [if_pos (by omega)]
    split
    · rw [if_pos (by omega), if_pos (by omega)]
      have e : wrap64 ((i : Int) + 1) = ((i + 1 : Nat) : Int) := by rw [wrap_id (by omega) (by omega)]; omega
      rw [e]
      exact ih (i + 1) _ (by omega) (by rw [List.length_set]; exact hx)
    · exact cjd_j2 R1 R2 l1 l2 h1 h2 n1 n2 hb1 hb2 x2 x8 hx
end
theorem CounterJoined : standstilllaw06_CounterJoined.Pure := by
  intro R1 l1 R2 l2 regs _ hl1 _ hl2 hl3
  apply Ev.rounds
  obtain ⟨hb1, _⟩ := hl1
  obtain ⟨hb2, _⟩ := hl2
  have hj : ∀ b, (b = false → okC R1 l1 = true ∧ okC R2 l2 = true ∧ l1.length ≤ 900 ∧ l2.length ≤ 900) → Ev (fun k => standstilllaw06_CounterJoined.j0 k regs b R1 l1 R2 l2) true := by
    intro b hb
    rw [Ev_succ]
    simp only [standstilllaw06_CounterJoined.j0, Ev_ite, Ev_none]
    cases b with
    | true => rw [if_pos rfl]; exact awake_b
    | false =>
      obtain ⟨h1, h2, n1, n2⟩ := hb rfl
      obtain ⟨a1, a2, _⟩ := okC_true h1
      obtain ⟨b1, b2, _⟩ := okC_true h2
      obtain ⟨r1, rfl⟩ := Int.eq_ofNat_of_zero_le (show 0 ≤ R1 by omega)
      obtain ⟨r2, rfl⟩ := Int.eq_ofNat_of_zero_le (show 0 ≤ R2 by omega)
      have hm0 : 0 ≤ mx (r1 : Int) r2 := by unfold mx; omega
      have hm3 : mx (r1 : Int) r2 ≤ 16 := by unfold mx; omega
      rw [if_neg (by simp), if_pos hm0, if_pos (by omega)]
      exact cjd_l0 r1 r2 l1 l2 h1 h2 n1 n2 hb1 hb2 regs (mx (r1 : Int) r2).toNat 0 _ (by omega) (by rw [List.length_replicate]; omega)
  have no : ∀ P : Prop, (true = false → P) := fun P h => by cases h
  unfold standstilllaw06_CounterJoined.f
  simp only [Ev_ite]
  split
  · exact hj true (no _)
  split
  · exact hj true (no _)
  split
  · exact hj true (no _)
  rw [Ev_bind (ref_Valid_ev R1 l1 hb1)]
  cases h1 : okC R1 l1 with
  | false => simp only [Bool.false_eq_true, if_false]; exact hj true (no _)
  | true =>
    simp only [if_true]
    rw [Ev_bind (ref_Valid_ev R2 l2 hb2)]
    refine hj _ (fun h => ⟨h1, by simpa using h, by omega, by omega⟩)

end Go.Proofs.Ytkekehpfkfadfaa.Pure
