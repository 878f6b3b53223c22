/- The plain law of CounterRuns: Valid, Fits, Step, Run and Until answer as the reference says. No condition beyond what every argument has. -/
import Derived.Test.YtkekehpfkfadfaaAid
import Derived.Test.YtkekehpfkfadfaaPCounterRunsx12
namespace Go.Proofs.Ytkekehpfkfadfaa.Pure
open Go.RowKit Go.Proofs.Ytkekehpfkfadfaa.PCounterRuns Go.Proofs.YtkekehpfkfadfaaW.PrintWords Go.Proofs.YtkekehpfkfadfaaW.PrintLast Go.Proofs.YtkekehpfkfadfaaW.PrintMore Go.Proofs.YtkekehpfkfadfaaAid
set_option linter.unusedVariables false
set_option linter.unusedSimpArgs false

theorem rdT (l : List S33) (i : Nat) (h : i < l.length) : rd_T33 l (i : Int) = l[i] := by
  simp [rd_T33, List.getD, h]
/-- An instruction is right: for R registers and n instructions. -/
def okI (R n : Int) (x : S33) : Prop :=
  (x.f0 = 2 ∧ x.f1 = 0 ∧ x.f2 = 0 ∧ x.f3 = 0) ∨ (x.f0 = 0 ∧ 0 ≤ x.f1 ∧ x.f1 < R ∧ 0 ≤ x.f2 ∧ x.f2 < n ∧ x.f3 = 0) ∨ (x.f0 = 1 ∧ 0 ≤ x.f1 ∧ x.f1 < R ∧ 0 ≤ x.f2 ∧ x.f2 < n ∧ 0 ≤ x.f3 ∧ x.f3 < n)
instance (R n : Int) (x : S33) : Decidable (okI R n x) := by unfold okI; infer_instance
def okIb (R n : Int) (x : S33) : Bool := decide (okI R n x)
/-- A register machine is right. -/
def okC (R : Int) (l : List S33) : Bool := decide (1 ≤ R) && decide (R ≤ 16) && decide (1 ≤ l.length) && decide (l.length ≤ 2000) && l.all (okIb R l.length)

theorem cv_loop (R : Int) (l : List S33) (hn : l.length ≤ 2000) (hp : 1 ≤ l.length) : ∀ (d i : Nat), i + d = l.length → Ev (fun k => counter_Valid.l0 k (l.length : Int) l (l.length : Int) (i : Int) R l) ((l.drop i).all (okIb R l.length)) := by
  intro d
  induction d with
  | zero =>
    intro i hi
    rw [Ev_succ]
    simp only [counter_Valid.l0, Ev_ite, Ev_some, Ev_none]
    rw [if_neg (by omega), List.drop_eq_nil_of_le (by omega)]
    rfl
  | succ d ih =>
    intro i hi
    have hlt : i < l.length := by omega
    have ih := ih (i + 1) (by omega)
    rw [drop_cons l i hlt, List.all_cons, Ev_succ]
    simp only [counter_Valid.l0, Ev_ite, Ev_some, Ev_none]
    rw [if_pos (by omega), if_pos (by omega), if_pos (by omega), rdT l i hlt]
    have hw : wrap64 ((i : Int) + 1) = ((i + 1 : Nat) : Int) := by rw [wrap_id (by omega) (by omega)]; omega
    have hgo : okI R l.length l[i] → Ev (fun k => counter_Valid.l0 k (l.length : Int) l (l.length : Int) (wrap64 ((i : Int) + 1)) R l) (okIb R l.length l[i] && (l.drop (i + 1)).all (okIb R l.length)) := by
      intro h
      rw [hw, okIb, decide_eq_true h, Bool.true_and]
      exact ih
    have hno : ¬ okI R l.length l[i] → (false = (okIb R l.length l[i] && (l.drop (i + 1)).all (okIb R l.length))) := by
      intro h
      rw [okIb, decide_eq_false h, Bool.false_and]
    generalize hx : l[i] = x at hgo hno ⊢
    obtain ⟨f0, f1, f2, f3⟩ := x
    simp only
    by_cases h2 : f0 = 2
    · subst h2
      rw [if_pos rfl, Ev_succ]
      simp only [counter_Valid.j2, Ev_ite, Ev_some]
      by_cases hz : f1 = 0 ∧ f2 = 0 ∧ f3 = 0
      · obtain ⟨rfl, rfl, rfl⟩ := hz
        rw [if_neg (by simp), if_pos trivial]
        exact hgo (by simp [okI])
      · rw [if_pos (by simp; omega)]
        exact hno (by simp only [okI]; omega)
    · rw [if_neg h2, Ev_succ]
      simp only [counter_Valid.j2, Ev_ite, Ev_some]
      rw [if_neg (by simp), if_neg h2]
      have hj3 : ∀ b, (b = true → okIb R l.length ⟨f0, f1, f2, f3⟩ = false) → (b = false → 0 ≤ f1 ∧ f1 < R ∧ 0 ≤ f2 ∧ f2 < l.length ∧ (f0 = 0 ∨ f0 = 1)) → Ev (fun k => counter_Valid.j3 k (l.length : Int) l (l.length : Int) (i : Int) b R l f0 f1 f2 f3) (okIb R l.length ⟨f0, f1, f2, f3⟩ && (l.drop (i + 1)).all (okIb R l.length)) := by
        intro b hb1 hb2
        rw [Ev_succ]
        simp only [counter_Valid.j3, Ev_ite, Ev_some]
        cases b with
        | true =>
          rw [if_pos rfl, hb1 rfl]
          rfl
        | false =>
          obtain ⟨h1, h3, h4, h5, h6⟩ := hb2 rfl
          rw [if_neg (by simp)]
          by_cases h0 : f0 = 0
          · rw [if_pos h0]
            by_cases hz : f3 = 0
            · rw [if_pos hz, if_neg (by omega), if_neg (by omega)]
              exact hgo (by simp only [okI]; omega)
            · rw [if_neg hz]
              exact hno (by simp only [okI]; omega)
          · rw [if_neg h0]
            by_cases hz : f3 < 0
            · rw [if_pos hz]
              exact hno (by simp only [okI]; omega)
            · rw [if_neg hz]
              by_cases hz : f3 ≥ l.length
              · rw [if_pos hz]
                exact hno (by simp only [okI]; omega)
              · rw [if_neg hz]
                exact hgo (by simp only [okI]; omega)
      have hfalse : (¬ (0 ≤ f1 ∧ f1 < R ∧ 0 ≤ f2 ∧ f2 < l.length ∧ (f0 = 0 ∨ f0 = 1))) → okIb R l.length ⟨f0, f1, f2, f3⟩ = false := by
        intro h
        rw [okIb, decide_eq_false (by simp only [okI]; omega)]
      split <;> (repeat' split) <;> first | (refine hj3 _ (fun _ => hfalse (by omega)) (fun h => by cases h)) | (refine hj3 _ (fun h => hfalse (by simp at h; omega)) (fun h => by simp at h; omega))
theorem counter_Valid_ev (R : Int) (l : List S33) (hb : l.length * 32 ≤ 140737488351232) : Ev (fun k => counter_Valid.f k R l) (okC R l) := by
  have hj : ∀ b, (b = true → okC R l = false) → (b = false → l.length ≤ 2000 ∧ 1 ≤ l.length ∧ okC R l = l.all (okIb R l.length)) → Ev (fun k => counter_Valid.j0 k (l.length : Int) b R l) (okC R l) := by
    intro b h1 h2
    rw [Ev_succ]
    simp only [counter_Valid.j0, Ev_ite, Ev_some]
    cases b with
    | true => rw [if_pos rfl, h1 rfl]
    | false =>
      obtain ⟨h3, h4, h5⟩ := h2 rfl
      rw [if_neg (by simp), h5]
      exact cv_loop R l h3 h4 l.length 0 (by omega)
  unfold counter_Valid.f
  simp only [Ev_ite]
  have e : okC R l = (decide (1 ≤ R) && decide (R ≤ 16) && decide (1 ≤ l.length) && decide (l.length ≤ 2000) && l.all (okIb R l.length)) := rfl
  split
  · refine hj _ (fun _ => ?_) (fun h => by cases h)
    rw [e, decide_eq_false (by omega)]; rfl
  · split
    · refine hj _ (fun _ => ?_) (fun h => by cases h)
      rw [e, decide_eq_false (by omega : ¬ R ≤ 16)]; simp
    · split
      · refine hj _ (fun _ => ?_) (fun h => by cases h)
        rw [e, decide_eq_false (by omega : ¬ 1 ≤ l.length)]; simp
      · refine hj _ (fun h => ?_) (fun h => ?_)
        · have h := of_decide_eq_true h
          rw [e, decide_eq_false (by omega : ¬ l.length ≤ 2000)]; simp
        · have h := of_decide_eq_false h
          refine ⟨by omega, by omega, ?_⟩
          rw [e, decide_eq_true (by omega), decide_eq_true (by omega), decide_eq_true (by omega), decide_eq_true (by omega)]
          rfl

theorem rv_loop (R : Int) (l : List S33) (hn : l.length ≤ 2000) : ∀ (d i : Nat), i + d = l.length → Ev (fun k => standstillref06_Valid.l0 k (i : Int) R l) ((l.drop i).all (okIb R l.length)) := by
  intro d
  induction d with
  | zero =>
    intro i hi
    rw [Ev_succ]
    simp only [standstillref06_Valid.l0, Ev_ite, Ev_some, Ev_none]
    rw [if_neg (by omega), List.drop_eq_nil_of_le (by omega)]
    rfl
  | succ d ih =>
    intro i hi
    have hlt : i < l.length := by omega
    have ih := ih (i + 1) (by omega)
    rw [drop_cons l i hlt, List.all_cons, Ev_succ]
    simp only [standstillref06_Valid.l0, Ev_ite, Ev_some, Ev_none]
    rw [if_pos (by omega), if_pos (by omega), rdT l i hlt]
    have hw : wrap64 ((i : Int) + 1) = ((i + 1 : Nat) : Int) := by rw [wrap_id (by omega) (by omega)]; omega
    have hgo : okI R l.length l[i] → Ev (fun k => standstillref06_Valid.l0 k (wrap64 ((i : Int) + 1)) R l) (okIb R l.length l[i] && (l.drop (i + 1)).all (okIb R l.length)) := by
      intro h
      rw [hw, okIb, decide_eq_true h, Bool.true_and]
      exact ih
    have hno : ¬ okI R l.length l[i] → (false = (okIb R l.length l[i] && (l.drop (i + 1)).all (okIb R l.length))) := by
      intro h
      rw [okIb, decide_eq_false h, Bool.false_and]
    generalize hx : l[i] = x at hgo hno ⊢
    obtain ⟨f0, f1, f2, f3⟩ := x
    simp only [okI] at hgo hno
    have hi : ∀ a : Int, standstillref06_index.f R l a = some (decide (0 ≤ a ∧ a < l.length)) := by
      intro a
      unfold standstillref06_index.f
      by_cases h : a ≥ 0
      · rw [if_pos h]; simp [h]
      · rw [if_neg h, decide_eq_false (by omega)]
    simp only [hi, Option.bind_some, Ev_ite, Ev_some]
    repeat' split
    all_goals first | (refine hgo ?_; simp_all; omega) | (refine hno ?_; simp_all; omega) | (exfalso; simp_all; omega) | (refine hgo ?_; simp_all; done) | (refine hno ?_; simp_all; done)

theorem ref_Valid_ev (R : Int) (l : List S33) (hb : l.length * 32 ≤ 140737488351232) : Ev (fun k => standstillref06_Valid.f k R l) (okC R l) := by
  have hj : ∀ b, (b = true → okC R l = false) → (b = false → l.length ≤ 2000 ∧ okC R l = l.all (okIb R l.length)) → Ev (fun k => standstillref06_Valid.j0 k b R l) (okC R l) := by
    intro b h1 h2
    rw [Ev_succ]
    simp only [standstillref06_Valid.j0, Ev_ite, Ev_some]
    cases b with
    | true => rw [if_pos rfl, h1 rfl]
    | false =>
      obtain ⟨h3, h5⟩ := h2 rfl
      rw [if_neg (by simp), h5]
      exact rv_loop R l h3 l.length 0 (by omega)
  unfold standstillref06_Valid.f
  simp only [Ev_ite]
  have e : okC R l = (decide (1 ≤ R) && decide (R ≤ 16) && decide (1 ≤ l.length) && decide (l.length ≤ 2000) && l.all (okIb R l.length)) := rfl
  split
  · refine hj _ (fun _ => ?_) (fun h => by cases h)
    rw [e, decide_eq_false (by omega)]; rfl
  · split
    · refine hj _ (fun _ => ?_) (fun h => by cases h)
      rw [e, decide_eq_false (by omega : ¬ R ≤ 16)]; simp
    · split
      · refine hj _ (fun _ => ?_) (fun h => by cases h)
        rw [e, decide_eq_false (by omega : ¬ 1 ≤ l.length)]; simp
      · refine hj _ (fun h => ?_) (fun h => ?_)
        · have h := of_decide_eq_true h
          rw [e, decide_eq_false (by omega : ¬ l.length ≤ 2000)]; simp
        · have h := of_decide_eq_false h
          refine ⟨by omega, ?_⟩
          rw [e, decide_eq_true (by omega), decide_eq_true (by omega), decide_eq_true (by omega), decide_eq_true (by omega)]
          rfl
theorem okC_true {R : Int} {l : List S33} (h : okC R l = true) : 1 ≤ R ∧ R ≤ 16 ∧ 1 ≤ l.length ∧ l.length ≤ 2000 ∧ ∀ x ∈ l, okI R l.length x := by
  simp only [okC, okIb, Bool.and_eq_true, decide_eq_true_eq, List.all_eq_true] at h
  exact ⟨h.1.1.1.1, h.1.1.1.2, h.1.1.2, h.1.2, h.2⟩
theorem okC_mk {R : Int} {l : List S33} (h : 1 ≤ R ∧ R ≤ 16 ∧ 1 ≤ l.length ∧ l.length ≤ 2000 ∧ ∀ x ∈ l, okI R l.length x) : okC R l = true := by
  simp only [okC, okIb, Bool.and_eq_true, decide_eq_true_eq, List.all_eq_true]
  exact ⟨⟨⟨⟨h.1, h.2.1⟩, h.2.2.1⟩, h.2.2.2.1⟩, h.2.2.2.2⟩


theorem getD_lt {α : Type} (l : List α) {i : Nat} (d : α) (h : i < l.length) : l.getD i d = l[i] := by
  simp [List.getD_eq_getElem?_getD, h]
theorem okC_ne {R : Int} {l : List S33} (h : okC R l = true) : ∀ i : Nat, i < l.length → okI R l.length (l.getD i z33) := by
  intro i hi
  rw [getD_lt _ _ hi]
  exact (okC_true h).2.2.2.2 _ (List.getElem_mem hi)
/-! A state fits. -/
def regOk (x : Int) : Bool := decide (0 ≤ x) && decide (x ≤ 1152921504606846976)
def okF (R : Int) (l : List S33) (p : Int) (r : List Int) : Bool := okC R l && (decide (0 ≤ p) && decide (p < l.length) && decide ((r.length : Int) = R) && r.all regOk)
theorem cf_loop (r : List Int) (hn : r.length ≤ 100000000) : ∀ (d i : Nat), i + d = r.length → Ev (fun k => counter_fits.l0 k r (r.length : Int) (i : Int)) ((r.drop i).all regOk) := by
  intro d
  induction d with
  | zero =>
    intro i hi
    rw [Ev_succ]
    simp only [counter_fits.l0, Ev_ite, Ev_some, Ev_none]
    rw [if_neg (by omega), List.drop_eq_nil_of_le (by omega)]
    rfl
  | succ d ih =>
    intro i hi
    have hlt : i < r.length := by omega
    have ih := ih (i + 1) (by omega)
    rw [drop_cons r i hlt, List.all_cons, Ev_succ]
    simp only [counter_fits.l0, Ev_ite, Ev_some, Ev_none]
    have hw : wrap64 ((i : Int) + 1) = ((i + 1 : Nat) : Int) := by rw [wrap_id (by omega) (by omega)]; omega
    rw [if_pos (by omega), if_pos (by omega), if_pos (by omega), rd_nat r i hlt, hw]
    by_cases h0 : r[i] < 0
    · rw [if_pos h0, regOk, decide_eq_false (by omega)]; rfl
    · rw [if_neg h0]
      by_cases h1 : r[i] > 1152921504606846976
      · rw [if_pos h1, regOk, decide_eq_true (by omega), decide_eq_false (by omega)]; rfl
      · rw [if_neg h1, regOk, decide_eq_true (by omega), decide_eq_true (by omega)]
        exact ih
theorem rf_loop (r : List Int) (p : Int) (hn : r.length ≤ 100000000) : ∀ (d i : Nat), i + d = r.length → Ev (fun k => standstillref06_Fits.l0 k (i : Int) p r) ((r.drop i).all regOk) := by
  intro d
  induction d with
  | zero =>
    intro i hi
    rw [Ev_succ]
    simp only [standstillref06_Fits.l0, Ev_ite, Ev_some, Ev_none]
    rw [if_neg (by omega), List.drop_eq_nil_of_le (by omega)]
    rfl
  | succ d ih =>
    intro i hi
    have hlt : i < r.length := by omega
    have ih := ih (i + 1) (by omega)
    rw [drop_cons r i hlt, List.all_cons, Ev_succ]
    simp only [standstillref06_Fits.l0, Ev_ite, Ev_some, Ev_none]
    have hw : wrap64 ((i : Int) + 1) = ((i + 1 : Nat) : Int) := by rw [wrap_id (by omega) (by omega)]; omega
    rw [if_pos (by omega), if_pos (by omega), rd_nat r i hlt, hw]
    by_cases h0 : r[i] < 0
    · rw [if_pos h0, regOk, decide_eq_false (by omega)]; rfl
    · rw [if_neg h0]
      by_cases h1 : r[i] > 1152921504606846976
      · rw [if_pos h1, regOk, decide_eq_true (by omega), decide_eq_false (by omega)]; rfl
      · rw [if_neg h1, regOk, decide_eq_true (by omega), decide_eq_true (by omega)]
        exact ih
theorem counter_Fits_ev (R : Int) (l : List S33) (p : Int) (r : List Int) (hb : l.length * 32 ≤ 140737488351232) : Ev (fun k => counter_Fits.f k R l p r) (okF R l p r) := by
  unfold counter_Fits.f
  rw [Ev_bind (counter_Valid_ev R l hb)]
  simp only [Ev_ite, Ev_some]
  by_cases hv : okC R l = true
  · rw [if_pos hv]
    have h16 := (okC_true hv).2.1
    have key : Ev (fun k => counter_fits.f k R l p r) (okF R l p r) := by
      unfold counter_fits.f okF
      rw [hv, Bool.true_and]
      simp only [Ev_ite]
      have hj : ∀ b, (b = true → ¬ (0 ≤ p ∧ p < l.length ∧ (r.length : Int) = R)) → (b = false → 0 ≤ p ∧ p < l.length ∧ (r.length : Int) = R) → Ev (fun k => counter_fits.j0 k b p r) (decide (0 ≤ p) && decide (p < l.length) && decide ((r.length : Int) = R) && r.all regOk) := by
        intro b h1 h2
        rw [Ev_succ]
        simp only [counter_fits.j0, Ev_ite, Ev_some]
        cases b with
        | true =>
          rw [if_pos rfl]
          have := h1 rfl
          by_cases c1 : 0 ≤ p
          · by_cases c2 : p < l.length
            · rw [decide_eq_false (by omega : ¬ ((r.length : Int) = R))]; simp
            · rw [decide_eq_false c2]; simp
          · rw [decide_eq_false c1]; simp
        | false =>
          obtain ⟨c1, c2, c3⟩ := h2 rfl
          rw [if_neg (by simp), decide_eq_true c1, decide_eq_true c2, decide_eq_true c3]
          exact cf_loop r (by omega) r.length 0 (by omega)
      split
      · exact hj _ (fun _ => by omega) (fun h => by cases h)
      · split
        · exact hj _ (fun _ => by omega) (fun h => by cases h)
        · exact hj _ (fun h => by simp at h; omega) (fun h => by simp at h; omega)
    rw [Ev_bind key, Ev_some]
  · rw [if_neg hv]
    simp only [okF, Bool.eq_false_iff.2 hv, Bool.false_and]
theorem ref_Fits_ev (R : Int) (l : List S33) (p : Int) (r : List Int) (hb : l.length * 32 ≤ 140737488351232) : Ev (fun k => standstillref06_Fits.f k R l p r) (okF R l p r) := by
  unfold standstillref06_Fits.f
  rw [Ev_bind (ref_Valid_ev R l hb)]
  have hi : standstillref06_index.f R l p = some (decide (0 ≤ p ∧ p < l.length)) := by
    unfold standstillref06_index.f
    by_cases h : p ≥ 0
    · rw [if_pos h]; simp [h]
    · rw [if_neg h, decide_eq_false (by omega)]
  simp only [hi, Option.bind_some, Ev_ite, decide_eq_true_eq]
  have hj : ∀ b, (b = true → okF R l p r = false) → (b = false → r.length ≤ 100000000 ∧ okF R l p r = r.all regOk) → Ev (fun k => standstillref06_Fits.j0 k b p r) (okF R l p r) := by
    intro b h1 h2
    rw [Ev_succ]
    simp only [standstillref06_Fits.j0, Ev_ite, Ev_some]
    cases b with
    | true => rw [if_pos rfl, h1 rfl]
    | false =>
      obtain ⟨c1, c2⟩ := h2 rfl
      rw [if_neg (by simp), c2]
      exact rf_loop r p c1 r.length 0 (by omega)
  by_cases hv : okC R l = true
  · have h16 := (okC_true hv).2.1
    rw [if_pos hv]
    by_cases hp : 0 ≤ p ∧ p < l.length
    · rw [if_pos hp]
      refine hj _ (fun h => ?_) (fun h => ?_)
      · have h : ¬ (r.length : Int) = R := by simp at h; omega
        simp [okF, decide_eq_false h]
      · have h : (r.length : Int) = R := by simp at h; omega
        refine ⟨by omega, ?_⟩
        rw [okF, hv, decide_eq_true hp.1, decide_eq_true hp.2, decide_eq_true h]
        rfl
    · rw [if_neg hp]
      refine hj _ (fun _ => ?_) (fun h => by cases h)
      by_cases c1 : 0 ≤ p
      · simp [okF, decide_eq_false (show ¬ p < l.length by omega)]
      · simp [okF, decide_eq_false c1]
  · rw [if_neg hv]
    refine hj _ (fun _ => ?_) (fun h => by cases h)
    simp only [okF, Bool.eq_false_iff.2 hv, Bool.false_and]
theorem okF_true {R : Int} {l : List S33} {p : Int} {r : List Int} (h : okF R l p r = true) : okC R l = true ∧ 0 ≤ p ∧ p < l.length ∧ (r.length : Int) = R ∧ ∀ x ∈ r, 0 ≤ x ∧ x ≤ 1152921504606846976 := by
  simp only [okF, regOk, Bool.and_eq_true, decide_eq_true_eq, List.all_eq_true] at h
  exact ⟨h.1, h.2.1.1.1, h.2.1.1.2, h.2.1.2, h.2.2⟩
theorem okF_mk {R : Int} {l : List S33} {p : Int} {r : List Int} (h : okC R l = true ∧ 0 ≤ p ∧ p < l.length ∧ (r.length : Int) = R ∧ ∀ x ∈ r, 0 ≤ x ∧ x ≤ 1152921504606846976) : okF R l p r = true := by
  simp only [okF, regOk, Bool.and_eq_true, decide_eq_true_eq, List.all_eq_true]
  exact ⟨h.1, ⟨⟨h.2.1, h.2.2.1⟩, h.2.2.2.1⟩, h.2.2.2.2⟩
theorem getD_set {α : Type} (l : List α) (i j : Nat) (v d : α) : (l.set i v).getD j d = if i = j ∧ j < l.length then v else l.getD j d := by
  simp only [List.getD_eq_getElem?_getD, List.getElem?_set]
  by_cases h : i = j
  · subst h
    by_cases h2 : i < l.length
    · simp [h2]
    · simp [h2]
  · simp [h]
theorem mem_getD {l : List Int} {i : Nat} (h : i < l.length) : l.getD i 0 ∈ l := by
  rw [getD_lt _ _ h]; exact List.getElem_mem h
/-- What Run answers. -/
def runOut (l : List S33) (d : Nat) (p : Int) (r : List Int) : Option (Int × List Int × Int × Int) := (crun l d p r 0).bind fun z => if z.2.2.2 = true then some (z.1, z.2.1, z.2.2.1, 0) else some (0, [], 0, 4)
theorem counter_Run_ev {R : Int} {l : List S33} {p : Int} {r : List Int} {n : Int} {z : Int × List Int × Int × Int} (hb : l.length * 32 ≤ 140737488351232) (hF : okF R l p r = true) (h0 : 0 ≤ n) (h1 : n ≤ 1000000) (hz : runOut l n.toNat p r = some z) : Ev (fun k => counter_Run.f k R l p r n) z := by
  unfold counter_Run.f
  rw [Ev_bind (counter_Fits_ev R l p r hb)]
  obtain ⟨hC, _, _, hl, _⟩ := okF_true hF
  have := (okC_true hC).2.1
  rw [hF]
  simp only [if_true, Ev_ite]
  rw [if_neg (by omega), if_neg (by omega), if_pos (by omega), Ev_const]
  exact hz


/-! A step of a register machine, in plain words. -/
def cst (l : List S33) (p : Int) (r : List Int) : Option (Int × List Int) :=
  if (rd_T33 l p).f0 = 0 then (if rd r (rd_T33 l p).f1 = 1152921504606846976 then none else some ((rd_T33 l p).f2, r.set (rd_T33 l p).f1.toNat (rd r (rd_T33 l p).f1 + 1)))
  else (if rd r (rd_T33 l p).f1 = 0 then some ((rd_T33 l p).f3, r) else some ((rd_T33 l p).f2, r.set (rd_T33 l p).f1.toNat (rd r (rd_T33 l p).f1 - 1)))
/-- A state that fits a right machine. -/
def okS (R : Int) (l : List S33) (p : Int) (r : List Int) : Prop := 0 ≤ p ∧ p < (l.length : Int) ∧ (r.length : Int) = R ∧ ∀ x ∈ r, 0 ≤ x ∧ x ≤ 1152921504606846976
theorem okS_of {R : Int} {l : List S33} {p : Int} {r : List Int} (h : okF R l p r = true) : okC R l = true ∧ okS R l p r := by
  obtain ⟨a, b⟩ := okF_true h
  exact ⟨a, b⟩
theorem okF_of {R : Int} {l : List S33} {p : Int} {r : List Int} (hC : okC R l = true) (h : okS R l p r) : okF R l p r = true := okF_mk ⟨hC, h⟩
theorem inst_ok {R : Int} {l : List S33} (hC : okC R l = true) {p : Int} (h0 : 0 ≤ p) (h1 : p < (l.length : Int)) : okI R l.length (rd_T33 l p) := by
  obtain ⟨i, rfl⟩ := Int.eq_ofNat_of_zero_le h0
  have hi : i < l.length := by omega
  rw [rdT l i hi]
  exact (okC_true hC).2.2.2.2 _ (List.getElem_mem hi)
theorem rd_ok {r : List Int} (h : ∀ x ∈ r, 0 ≤ x ∧ x ≤ 1152921504606846976) {i : Int} (h0 : 0 ≤ i) (h1 : i < (r.length : Int)) : 0 ≤ rd r i ∧ rd r i ≤ 1152921504606846976 := by
  obtain ⟨j, rfl⟩ := Int.eq_ofNat_of_zero_le h0
  have hj : j < r.length := by omega
  rw [rd_nat r j hj]
  exact h _ (List.getElem_mem hj)
theorem set_ok {r : List Int} (h : ∀ x ∈ r, 0 ≤ x ∧ x ≤ 1152921504606846976) (i : Nat) (v : Int) (h0 : 0 ≤ v ∧ v ≤ 1152921504606846976) : ∀ x ∈ r.set i v, 0 ≤ x ∧ x ≤ 1152921504606846976 := by
  intro x hx
  rcases List.mem_or_eq_of_mem_set hx with h1 | rfl
  · exact h x h1
  · exact h0
theorem cst_ok {R : Int} {l : List S33} (hC : okC R l = true) {p : Int} {r : List Int} (h : okS R l p r) (hh : (rd_T33 l p).f0 ≠ 2) : cst l p r = none ∨ ∃ p' r', cst l p r = some (p', r') ∧ okS R l p' r' := by
  obtain ⟨h0, h1, h2, h3⟩ := h
  unfold cst
  rcases inst_ok hC h0 h1 with a | ⟨a0, a1, a2, a3, a4, a5⟩ | ⟨a0, a1, a2, a3, a4, a5, a6⟩
  · exact absurd a.1 hh
  · rw [if_pos a0]
    have hb := rd_ok h3 a1 (by omega)
    split
    · exact .inl rfl
    · exact .inr ⟨_, _, rfl, a3, a4, by rw [List.length_set]; exact h2, set_ok h3 _ _ (by omega)⟩
  · rw [if_neg (by omega)]
    have hb := rd_ok h3 a1 (by omega)
    split
    · exact .inr ⟨_, _, rfl, a5, a6, h2, h3⟩
    · exact .inr ⟨_, _, rfl, a3, a4, by rw [List.length_set]; exact h2, set_ok h3 _ _ (by omega)⟩
theorem crun_succ {R : Int} {l : List S33} (hC : okC R l = true) {p : Int} {r : List Int} (h : okS R l p r) (d : Nat) (i : Int) : crun l (d + 1) p r i = if (rd_T33 l p).f0 = 2 then some (p, r, i, true) else match cst l p r with | none => some (0, [], 0, false) | some s => crun l d s.1 s.2 (i + 1) := by
  obtain ⟨h0, h1, h2, h3⟩ := h
  simp only [crun]
  rw [if_pos ⟨h0, h1⟩]
  by_cases hh : (rd_T33 l p).f0 = 2
  · rw [if_pos hh, if_pos hh]
  rw [if_neg hh, if_neg hh]
  unfold cst
  rcases inst_ok hC h0 h1 with a | ⟨a0, a1, a2, a3, a4, a5⟩ | ⟨a0, a1, a2, a3, a4, a5, a6⟩
  · exact absurd a.1 hh
  · have hb := rd_ok h3 a1 (by omega)
    rw [if_pos ⟨a1, by omega⟩, if_pos a0, if_pos a0]
    by_cases hm : rd r (rd_T33 l p).f1 = 1152921504606846976
    · rw [if_pos hm, if_pos hm]
    · rw [if_neg hm, if_neg hm, wrap_id (by omega) (by omega)]
  · have hb := rd_ok h3 a1 (by omega)
    have a0' : ¬ (rd_T33 l p).f0 = 0 := by omega
    rw [if_pos ⟨a1, by omega⟩, if_neg a0', if_pos a0, if_neg a0']
    by_cases hm : rd r (rd_T33 l p).f1 = 0
    · rw [if_pos hm, if_pos hm]
    · rw [if_neg hm, if_neg hm, wrap_id (by omega) (by omega)]
theorem crunE_succ {R : Int} {l : List S33} (hC : okC R l = true) (P : Int → Option Bool) {p : Int} {r : List Int} (h : okS R l p r) (d : Nat) (i : Int) : crunE P l (d + 1) p r i = if (rd_T33 l p).f0 = 2 then some (p, r, i, true, false) else match cst l p r with | none => some (0, [], 0, false, false) | some s => (P s.1).bind fun m => if m = true then some (s.1, s.2, i + 1, true, true) else crunE P l d s.1 s.2 (i + 1) := by
  obtain ⟨h0, h1, h2, h3⟩ := h
  simp only [crunE]
  rw [if_pos ⟨h0, h1⟩]
  by_cases hh : (rd_T33 l p).f0 = 2
  · rw [if_pos hh, if_pos hh]
  rw [if_neg hh, if_neg hh]
  unfold cst
  rcases inst_ok hC h0 h1 with a | ⟨a0, a1, a2, a3, a4, a5⟩ | ⟨a0, a1, a2, a3, a4, a5, a6⟩
  · exact absurd a.1 hh
  · have hb := rd_ok h3 a1 (by omega)
    rw [if_pos ⟨a1, by omega⟩, if_pos a0, if_pos a0]
    by_cases hm : rd r (rd_T33 l p).f1 = 1152921504606846976
    · rw [if_pos hm, if_pos hm]
    · rw [if_neg hm, if_neg hm, wrap_id (by omega) (by omega)]
  · have hb := rd_ok h3 a1 (by omega)
    have a0' : ¬ (rd_T33 l p).f0 = 0 := by omega
    rw [if_pos ⟨a1, by omega⟩, if_neg a0', if_pos a0, if_neg a0']
    by_cases hm : rd r (rd_T33 l p).f1 = 0
    · rw [if_pos hm, if_pos hm]
    · rw [if_neg hm, if_neg hm, wrap_id (by omega) (by omega)]
/-- Runs end, and in a state that fits. -/
theorem crun_ok {R : Int} {l : List S33} (hC : okC R l = true) : ∀ (d : Nat) (p : Int) (r : List Int) (i : Int), okS R l p r → (∃ p' r' j, crun l d p r i = some (p', r', j, true) ∧ okS R l p' r' ∧ i ≤ j ∧ j ≤ i + d) ∨ crun l d p r i = some (0, [], 0, false) := by
  intro d
  induction d with
  | zero => intro p r i h; exact .inl ⟨p, r, i, rfl, h, by omega, by omega⟩
  | succ d ih =>
    intro p r i h
    rw [crun_succ hC h]
    by_cases hh : (rd_T33 l p).f0 = 2
    · rw [if_pos hh]; exact .inl ⟨p, r, i, rfl, h, by omega, by omega⟩
    rw [if_neg hh]
    rcases cst_ok hC h hh with e | ⟨p', r', e, ho⟩
    · rw [e]; exact .inr rfl
    · rw [e]
      rcases ih p' r' (i + 1) ho with ⟨p2, r2, j, a, b, c, c2⟩ | a
      · exact .inl ⟨p2, r2, j, a, b, by omega, by push_cast; omega⟩
      · exact .inr a
theorem crun_shift {R : Int} {l : List S33} (hC : okC R l = true) (c : Int) : ∀ (d : Nat) (p : Int) (r : List Int) (i : Int), okS R l p r → crun l d p r (i + c) = (crun l d p r i).map fun z => if z.2.2.2 = true then (z.1, z.2.1, z.2.2.1 + c, true) else z := by
  intro d
  induction d with
  | zero => intro p r i h; simp [crun]
  | succ d ih =>
    intro p r i h
    rw [crun_succ hC h, crun_succ hC h]
    by_cases hh : (rd_T33 l p).f0 = 2
    · rw [if_pos hh, if_pos hh]; simp
    rw [if_neg hh, if_neg hh]
    rcases cst_ok hC h hh with e | ⟨p', r', e, ho⟩
    · rw [e]; rfl
    · rw [e]
      simp only
      rw [show i + c + 1 = i + 1 + c by omega]
      exact ih p' r' (i + 1) ho
theorem crun_add {R : Int} {l : List S33} (hC : okC R l = true) (k : Nat) : ∀ (d : Nat) (p : Int) (r : List Int) (i : Int), okS R l p r → ∀ p' r' j, crun l d p r i = some (p', r', j, true) → crun l (d + k) p r i = crun l k p' r' j := by
  intro d
  induction d with
  | zero =>
    intro p r i h p' r' j e
    simp only [crun, Option.some.injEq, Prod.mk.injEq] at e
    obtain ⟨rfl, rfl, rfl, _⟩ := e
    rw [Nat.zero_add]
  | succ d ih =>
    intro p r i h p' r' j e
    rw [crun_succ hC h] at e
    rw [show d + 1 + k = (d + k) + 1 by omega, crun_succ hC h]
    by_cases hh : (rd_T33 l p).f0 = 2
    · rw [if_pos hh] at e
      simp only [Option.some.injEq, Prod.mk.injEq] at e
      obtain ⟨rfl, rfl, rfl, _⟩ := e
      rw [if_pos hh]
      cases k with
      | zero => rfl
      | succ k => rw [crun_succ hC h, if_pos hh]
    rw [if_neg hh] at e ⊢
    rcases cst_ok hC h hh with e1 | ⟨p1, r1, e1, ho⟩
    · rw [e1] at e; simp at e
    · rw [e1] at e ⊢
      exact ih p1 r1 (i + 1) ho p' r' j e
theorem crun_bad {R : Int} {l : List S33} (hC : okC R l = true) (k : Nat) : ∀ (d : Nat) (p : Int) (r : List Int) (i : Int), okS R l p r → crun l d p r i = some (0, [], 0, false) → crun l (d + k) p r i = some (0, [], 0, false) := by
  intro d
  induction d with
  | zero => intro p r i h e; simp [crun] at e
  | succ d ih =>
    intro p r i h e
    rw [crun_succ hC h] at e
    rw [show d + 1 + k = (d + k) + 1 by omega, crun_succ hC h]
    by_cases hh : (rd_T33 l p).f0 = 2
    · rw [if_pos hh] at e; simp at e
    rw [if_neg hh] at e ⊢
    rcases cst_ok hC h hh with e1 | ⟨p1, r1, e1, ho⟩
    · rw [e1]
    · rw [e1] at e ⊢
      exact ih p1 r1 (i + 1) ho e
/-- A run until a point: t steps, no point before. -/
inductive Un (l : List S33) (pts : List Int) : Nat → Int → List Int → Int → List Int → Prop
  | last {p p' : Int} {r r' : List Int} : (rd_T33 l p).f0 ≠ 2 → cst l p r = some (p', r') → p' ∈ pts → Un l pts 1 p r p' r'
  | step {t : Nat} {p p1 p' : Int} {r r1 r' : List Int} : (rd_T33 l p).f0 ≠ 2 → cst l p r = some (p1, r1) → p1 ∉ pts → Un l pts t p1 r1 p' r' → Un l pts (t + 1) p r p' r'
/-- What Until's run comes to, step by step, for the points themselves. -/
theorem crunE_un {R : Int} {l : List S33} (hC : okC R l = true) (pts : List Int) : ∀ (d : Nat) (p : Int) (r : List Int) (i : Int), okS R l p r →
    (∃ t : Nat, ∃ p' r', crunE (fun a => some (decide (a ∈ pts))) l d p r i = some (p', r', i + (t : Int), true, true) ∧ t ≤ d ∧ 1 ≤ t ∧ Un l pts t p r p' r' ∧ okS R l p' r') ∨
    (∃ p' r' j, crunE (fun a => some (decide (a ∈ pts))) l d p r i = some (p', r', j, true, false)) ∨
    (crunE (fun a => some (decide (a ∈ pts))) l d p r i = some (0, [], 0, false, false) ∧ crun l d p r i = some (0, [], 0, false)) := by
  intro d
  induction d with
  | zero => intro p r i h; exact .inr (.inl ⟨p, r, i, rfl⟩)
  | succ d ih =>
    intro p r i h
    rw [crunE_succ hC _ h, crun_succ hC h]
    by_cases hh : (rd_T33 l p).f0 = 2
    · rw [if_pos hh]; exact .inr (.inl ⟨p, r, i, rfl⟩)
    rw [if_neg hh, if_neg hh]
    rcases cst_ok hC h hh with e1 | ⟨p1, r1, e1, ho⟩
    · rw [e1]; exact .inr (.inr ⟨rfl, rfl⟩)
    · rw [e1]
      simp only [Option.bind_some]
      by_cases hp : p1 ∈ pts
      · rw [decide_eq_true hp, if_pos rfl]
        exact .inl ⟨1, p1, r1, rfl, by omega, by omega, .last hh e1 hp, ho⟩
      · rw [decide_eq_false hp, if_neg (by decide)]
        rcases ih p1 r1 (i + 1) ho with ⟨t, p', r', a, b, c, u, o⟩ | a | a
        · exact .inl ⟨t + 1, p', r', by rw [a]; congr 3; congr 1; push_cast; omega, by omega, by omega, .step hh e1 hp u, o⟩
        · exact .inr (.inl a)
        · exact .inr (.inr a)
theorem un_run {R : Int} {l : List S33} (hC : okC R l = true) {pts : List Int} {t : Nat} {p p' : Int} {r r' : List Int} (u : Un l pts t p r p' r') : okS R l p r → ∀ i : Int, crun l t p r i = some (p', r', i + (t : Int), true) := by
  induction u with
  | last hh e hp =>
    intro h i
    rw [crun_succ hC h, if_neg hh, e]
    rfl
  | step hh e hp u ih =>
    intro h i
    rw [crun_succ hC h, if_neg hh, e]
    simp only
    rcases cst_ok hC h hh with e1 | ⟨p1, r1, e1, ho⟩
    · rw [e1] at e; cases e
    · rw [e1] at e
      simp only [Option.some.injEq, Prod.mk.injEq] at e
      obtain ⟨rfl, rfl⟩ := e
      rw [ih ho]
      congr 3
      congr 1
      push_cast
      omega
theorem un_mem {l : List S33} {pts : List Int} {t : Nat} {p p' : Int} {r r' : List Int} (u : Un l pts t p r p' r') : p' ∈ pts := by
  induction u with
  | last _ _ hp => exact hp
  | step _ _ _ _ ih => exact ih
theorem sameCount_loop (q q' : Int) (l : List Int) (hl : l.length ≤ 100000) : ∀ (d i : Nat), i + d = l.length → Ev (fun k => standstillref06_SameCount.l0 k (i : Int) q l q' l) true := by
  intro d
  induction d with
  | zero =>
    intro i hi
    rw [Ev_succ]
    simp only [standstillref06_SameCount.l0, Ev_ite, Ev_none]
    rw [if_neg (by omega)]
    exact Ev.now _
  | succ d ih =>
    intro i hi
    have ih := ih (i + 1) (by omega)
    rw [Ev_succ]
    simp only [standstillref06_SameCount.l0, Ev_ite, Ev_none]
    rw [if_pos (by omega), if_pos (by omega), if_pos (by omega), if_pos trivial, wrap_id (by omega) (by omega)]
    exact ih
theorem sameCount_refl (p : Int) (l : List Int) (hl : l.length ≤ 100000) : Ev (fun k => standstillref06_SameCount.f k p l p l) true := by
  unfold standstillref06_SameCount.f
  simp only [if_true]
  rw [Ev_succ]
  simp only [standstillref06_SameCount.j0, Ev_ite]
  rw [if_neg (by simp)]
  exact sameCount_loop p p l hl l.length 0 (by omega)
theorem awake_ev : Ev (fun k => standstilllaw06_awake.f k) true := Ev.of (k := 200) standstilllaw06_awake.mono (by decide +kernel)
theorem awake_b : Ev (fun k => (standstilllaw06_awake.f k).bind fun t => some t) true := by
  rw [Ev_bind awake_ev]
  exact Ev.now _
theorem counter_Run_bad {R : Int} {l : List S33} {p : Int} {r : List Int} {n : Int} (hb : l.length * 32 ≤ 140737488351232) (hF : okF R l p r = false) : Ev (fun k => counter_Run.f k R l p r n) (0, [], 0, 1) := by
  unfold counter_Run.f
  rw [Ev_bind (counter_Fits_ev R l p r hb), hF]
  simp only [Bool.false_eq_true, if_false]
  exact Ev.now _
theorem In_ev (x : Int) (l : List Int) (hl : l.length ≤ 100000) : Ev (fun k => standstillref06_In.f k x l) (decide (x ∈ l)) := by
  have H : ∀ (d i : Nat), i + d = l.length → Ev (fun k => standstillref06_In.l0 k x l (i : Int)) (decide (x ∈ l.drop i)) := by
    intro d
    induction d with
    | zero =>
      intro i hi
      rw [Ev_succ, List.drop_eq_nil_of_le (by omega)]
      simp only [standstillref06_In.l0, Ev_ite, Ev_none, Ev_some]
      rw [if_neg (by omega)]
      simp
    | succ d ih =>
      intro i hi
      have hlt : i < l.length := by omega
      have ih := ih (i + 1) (by omega)
      rw [drop_cons l i hlt, Ev_succ]
      simp only [standstillref06_In.l0, Ev_ite, Ev_none, Ev_some]
      rw [if_pos (by omega), if_pos (by omega), rd_nat l i hlt, wrap_id (by omega) (by omega)]
      by_cases c : l[i] = x
      · rw [if_pos c, decide_eq_true (by rw [c]; exact List.mem_cons_self)]
      · rw [if_neg c]
        have e : decide (x ∈ l[i] :: l.drop (i + 1)) = decide (x ∈ l.drop (i + 1)) := by
          rw [decide_eq_decide, List.mem_cons]
          exact ⟨fun h => h.resolve_left (fun h => c h.symm), Or.inr⟩
        rw [e]
        exact ih
  exact H l.length 0 (by omega)

/-! Points, rising: the binary search. -/
def rising (pts : List Int) : Prop := ∀ i j : Nat, i < j → j < pts.length → pts.getD i 0 < pts.getD j 0
theorem pgo_rising {cl : Int} {pts : List Int} (h : pgo cl pts pts.length 0 = true) : rising pts := by
  have H : ∀ (d i : Nat), i + d = pts.length → pgo cl pts d (i : Int) = true → (∀ a b : Nat, a < b → b < i → pts.getD a 0 < pts.getD b 0) → ∀ a b : Nat, a < b → b < pts.length → pts.getD a 0 < pts.getD b 0 := by
    intro d
    induction d with
    | zero => intro i hi _ hp a b hab hb; exact hp a b hab (by omega)
    | succ d ih =>
      intro i hi hg hp
      have hlt : i < pts.length := by omega
      simp only [pgo] at hg
      split at hg
      · cases hg
      split at hg
      · cases hg
      by_cases c : (0 : Int) < (i : Int)
      · rw [if_pos c] at hg
        split at hg
        · cases hg
        rename_i hle
        rw [rd_nat pts i hlt, show (i : Int) - 1 = ((i - 1 : Nat) : Int) by omega, rd_nat pts (i - 1) (by omega)] at hle
        refine ih (i + 1) (by omega) (by simpa using hg) (fun a b hab hb => ?_)
        by_cases e : b = i
        · subst e
          have e1 : pts.getD (b - 1) 0 = pts[b - 1]'(by omega) := getD_lt pts 0 (by omega)
          have e2 : pts.getD b 0 = pts[b] := getD_lt pts 0 hlt
          have e3 : pts.getD (b - 1) 0 < pts.getD b 0 := by rw [e1, e2]; omega
          by_cases e4 : a = b - 1
          · rw [e4]; exact e3
          · exact Int.lt_trans (hp a (b - 1) (by omega) (by omega)) e3
        · exact hp a b hab (by omega)
      · rw [if_neg c] at hg
        exact ih (i + 1) (by omega) (by simpa using hg) (fun a b hab hb => by omega)
  exact H pts.length 0 (by omega) h (fun a b _ hb => by omega)
theorem less_eq (a b : Int) : cmp_Less_int.f a b = some (decide (a < b)) := by
  simp [cmp_Less_int.f, cmp_isNaN_int.f]
theorem half (a b : Nat) (ha : a ≤ 1000000000) (hb : b ≤ 1000000000) : wrap64 ((IntKind.u64.wrap (wrap64 ((a : Int) + (b : Int)))) / 2) = (((a + b) / 2 : Nat) : Int) := by
  have e1 : wrap64 ((a : Int) + (b : Int)) = ((a + b : Nat) : Int) := by rw [wrap_id (by omega) (by omega)]; push_cast; rfl
  rw [e1]
  have e2 : IntKind.u64.wrap ((a + b : Nat) : Int) = ((a + b : Nat) : Int) := by
    simp [IntKind.wrap, IntKind.signed, IntKind.bits]
    omega
  rw [e2, wrap_id (by omega) (by omega)]
  omega
theorem bs_l0 (pts : List Int) (x : Int) (hr : rising pts) (hl : pts.length ≤ 1000000000) : ∀ (d a b : Nat), b - a ≤ d → a ≤ b → b ≤ pts.length → (∀ i : Nat, i < a → pts.getD i 0 < x) → (∀ i : Nat, b ≤ i → i < pts.length → ¬ pts.getD i 0 < x) →
    ∃ i, Ev (fun k => slices_BinarySearch_int_int.l0 k pts x (pts.length : Int) (a : Int) (b : Int)) (i, decide (x ∈ pts)) := by
  intro d
  induction d with
  | zero =>
    intro a b hd hab hb h1 h2
    have : a = b := by omega
    subst this
    refine ⟨a, ?_⟩
    rw [Ev_succ]
    simp only [slices_BinarySearch_int_int.l0, Ev_ite, Ev_none, Ev_some]
    rw [if_neg (by omega)]
    by_cases c : a < pts.length
    · rw [if_pos (by omega), if_pos (by omega), if_pos (by omega), rd_nat pts a c]
      have e : pts.getD a 0 = pts[a] := getD_lt pts 0 c
      by_cases c1 : pts[a] = x
      · rw [if_pos c1, decide_eq_true (by rw [← c1]; exact List.getElem_mem c)]
      · rw [if_neg c1]
        have hn : x ∉ pts := by
          intro hx
          obtain ⟨j, hj, rfl⟩ := List.mem_iff_getElem.1 hx
          have ej : pts.getD j 0 = pts[j] := getD_lt pts 0 hj
          rcases Nat.lt_trichotomy j a with h | h | h
          · have := h1 j h; rw [ej] at this; omega
          · subst h; exact c1 rfl
          · have h3 := hr a j h hj
            have h4 := h2 a (Nat.le_refl _) c
            rw [ej] at h3
            omega
        rw [decide_eq_false hn]
        simp [slices_isNaN_int.f, Ev_some]
    · rw [if_neg (by omega)]
      have hn : x ∉ pts := by
        intro hx
        obtain ⟨j, hj, rfl⟩ := List.mem_iff_getElem.1 hx
        have ej : pts.getD j 0 = pts[j] := getD_lt pts 0 hj
        have := h1 j (by omega)
        rw [ej] at this
        omega
      rw [decide_eq_false hn]
  | succ d ih =>
    intro a b hd hab hb h1 h2
    by_cases c : a = b
    · exact ih a b (by omega) hab hb h1 h2
    have hm : (a + b) / 2 < pts.length := by omega
    have e : pts.getD ((a + b) / 2) 0 = pts[(a + b) / 2] := getD_lt pts 0 hm
    by_cases c1 : pts[(a + b) / 2] < x
    · obtain ⟨i, hi⟩ := ih ((a + b) / 2 + 1) b (by omega) (by omega) hb (fun i hi => by
        by_cases c2 : i = (a + b) / 2
        · rw [c2, e]; exact c1
        · have := hr i ((a + b) / 2) (by omega) hm
          rw [e] at this
          omega) h2
      refine ⟨i, ?_⟩
      rw [Ev_succ]
      simp only [slices_BinarySearch_int_int.l0, Ev_ite, Ev_none, half a b (by omega) (by omega)]
      rw [if_pos (by omega), if_pos (by omega), if_pos (by omega), rd_nat pts _ hm, less_eq]
      simp only [Option.bind_some, decide_eq_true c1, if_true]
      rw [wrap_id (by omega) (by omega)]
      exact hi
    · obtain ⟨i, hi⟩ := ih a ((a + b) / 2) (by omega) (by omega) (by omega) h1 (fun i hi hl2 => by
        by_cases c2 : i = (a + b) / 2
        · rw [c2, e]; exact c1
        · have := hr ((a + b) / 2) i (by omega) hl2
          rw [e] at this
          omega)
      refine ⟨i, ?_⟩
      rw [Ev_succ]
      simp only [slices_BinarySearch_int_int.l0, Ev_ite, Ev_none, half a b (by omega) (by omega)]
      rw [if_pos (by omega), if_pos (by omega), if_pos (by omega), rd_nat pts _ hm, less_eq]
      simp only [Option.bind_some, decide_eq_false c1, Bool.false_eq_true, if_false]
      exact hi
theorem bs_ev (pts : List Int) (x : Int) (hr : rising pts) (hl : pts.length ≤ 1000000000) : Ev (fun k => (slices_BinarySearch_int_int.f k pts x).map (·.2)) (decide (x ∈ pts)) := by
  obtain ⟨i, K, h⟩ := bs_l0 pts x hr hl pts.length 0 pts.length (by omega) (by omega) (by omega) (fun i hi => by omega) (fun i h1 h2 => by omega)
  refine ⟨K, fun k hk => ?_⟩
  have e := h k hk
  simp only at e
  show (slices_BinarySearch_int_int.l0 k pts x (pts.length : Int) ((0 : Nat) : Int) (pts.length : Int)).map (·.2) = _
  rw [e]
  rfl
theorem crunE_ev {R : Int} {l : List S33} (hC : okC R l = true) (P : Nat → Int → Option Bool) (Q : Int → Bool) (hP : ∀ a, Ev (fun k => P k a) (Q a)) : ∀ (d : Nat) (p : Int) (r : List Int) (i : Int) (z : Int × List Int × Int × Bool × Bool), okS R l p r → crunE (fun a => some (Q a)) l d p r i = some z → Ev (fun k => crunE (P k) l d p r i) z := by
  intro d
  induction d with
  | zero =>
    intro p r i z h e
    simp only [crunE] at e ⊢
    injection e with e
    subst e
    exact Ev.now _
  | succ d ih =>
    intro p r i z h e
    rw [crunE_succ hC _ h] at e
    have hk : (fun k => crunE (P k) l (d + 1) p r i) = fun k => if (rd_T33 l p).f0 = 2 then some (p, r, i, true, false) else match cst l p r with | none => some (0, [], 0, false, false) | some s => (P k s.1).bind fun m => if m = true then some (s.1, s.2, i + 1, true, true) else crunE (P k) l d s.1 s.2 (i + 1) := by
      funext k
      exact crunE_succ hC _ h d i
    rw [hk]
    by_cases hh : (rd_T33 l p).f0 = 2
    · rw [if_pos hh] at e
      injection e with e
      subst e
      simp only [if_pos hh]
      exact Ev.now _
    rw [if_neg hh] at e
    simp only [if_neg hh]
    rcases cst_ok hC h hh with e1 | ⟨p1, r1, e1, ho⟩
    · rw [e1] at e ⊢
      injection e with e
      subst e
      exact Ev.now _
    · rw [e1] at e ⊢
      simp only [Option.bind_some] at e ⊢
      rw [Ev_bind (hP p1)]
      cases hq : Q p1 with
      | true =>
        rw [hq, if_pos rfl] at e
        injection e with e
        subst e
        simp only [if_true]
        exact Ev.now _
      | false =>
        rw [hq, if_neg (by decide)] at e
        simp only [Bool.false_eq_true, if_false]
        exact ih p1 r1 (i + 1) z ho e

/-- What Run answers for a state that fits. -/
theorem Run_ev {R : Int} {l : List S33} {p : Int} {r : List Int} {n : Nat} {z : Int × List Int × Int × Bool} (hb : l.length * 32 ≤ 140737488351232) (hC : okC R l = true) (h : okS R l p r) (h1 : n ≤ 1000000) (hz : crun l n p r 0 = some z) : Ev (fun k => counter_Run.f k R l p r (n : Int)) (if z.2.2.2 = true then (z.1, z.2.1, z.2.2.1, 0) else (0, [], 0, 4)) := by
  refine counter_Run_ev hb (okF_of hC h) (by omega) (by omega) ?_
  rw [Int.toNat_natCast, runOut, hz, Option.bind_some]
  split <;> rfl
theorem regs_len {R : Int} {l : List S33} {p : Int} {r : List Int} (hC : okC R l = true) (h : okS R l p r) : r.length ≤ 100000 := by
  have h1 := (okC_true hC).2.1
  have h2 := h.2.2.1
  omega
/-- A step of the reference. -/
theorem rgo_eq {R : Int} {l : List S33} (hC : okC R l = true) {p : Int} {r : List Int} (h : okS R l p r) : rgo l p r = some (if (rd_T33 l p).f0 = 2 then (p, r, true, false) else match cst l p r with | none => (p, r, false, true) | some s => (s.1, s.2, false, false)) := by
  obtain ⟨h0, h1, h2, h3⟩ := h
  unfold rgo
  rw [if_pos ⟨h0, h1⟩]
  by_cases hh : (rd_T33 l p).f0 = 2
  · rw [if_pos hh, if_pos hh]
  rw [if_neg hh, if_neg hh]
  unfold cst
  rcases inst_ok hC h0 h1 with a | ⟨a0, a1, a2, a3, a4, a5⟩ | ⟨a0, a1, a2, a3, a4, a5, a6⟩
  · exact absurd a.1 hh
  · have hb := rd_ok h3 a1 (by omega)
    rw [if_pos ⟨a1, by omega⟩, if_pos a0, if_pos a0]
    by_cases hm : rd r (rd_T33 l p).f1 = 1152921504606846976
    · rw [if_pos hm, if_pos (by omega)]
    · rw [if_neg hm, if_neg (by omega), wrap_id (by omega) (by omega)]
  · have hb := rd_ok h3 a1 (by omega)
    have a0' : ¬ (rd_T33 l p).f0 = 0 := by omega
    rw [if_pos ⟨a1, by omega⟩, if_neg a0', if_neg a0']
    by_cases hm : rd r (rd_T33 l p).f1 = 0
    · rw [if_pos hm, if_pos hm]
    · rw [if_neg hm, if_neg hm, wrap_id (by omega) (by omega)]
theorem rrun_eq {R : Int} {l : List S33} (hC : okC R l = true) : ∀ (d : Nat) (p : Int) (r : List Int) (i : Int), okS R l p r → rrun l d p r i = crun l d p r i := by
  intro d
  induction d with
  | zero => intro p r i h; rfl
  | succ d ih =>
    intro p r i h
    rw [crun_succ hC h]
    simp only [rrun, rgo_eq hC h, Option.bind_some]
    by_cases hh : (rd_T33 l p).f0 = 2
    · rw [if_pos hh, if_pos hh]
      simp
    · rw [if_neg hh, if_neg hh]
      rcases cst_ok hC h hh with e | ⟨p1, r1, e, ho⟩
      · rw [e]; simp
      · rw [e]
        simp only [Bool.false_eq_true, if_false]
        exact ih p1 r1 (i + 1) ho
def outE (z : Int × List Int × Int × Bool × Bool) : Int × List Int × Int × Int := if z.2.2.2.1 = true then (if z.2.2.2.2 = true then (z.1, z.2.1, z.2.2.1, 0) else (0, [], 0, 6)) else (0, [], 0, 4)
theorem runtil_ev {R : Int} {l : List S33} (hC : okC R l = true) (pts : List Int) (hp : pts.length ≤ 4000) : ∀ (d : Nat) (p : Int) (r : List Int) (i : Int), okS R l p r → ∃ z, crunE (fun a => some (decide (a ∈ pts))) l d p r i = some z ∧ Ev (fun k => runtil k l pts d p r (i + 1)) (outE z) ∧ (outE z).2.1.length ≤ 100000 := by
  intro d
  induction d with
  | zero =>
    intro p r i h
    exact ⟨_, rfl, Ev.now _, by simp [outE]⟩
  | succ d ih =>
    intro p r i h
    rw [crunE_succ hC _ h]
    simp only [runtil, rgo_eq hC h, Option.bind_some]
    by_cases hh : (rd_T33 l p).f0 = 2
    · simp only [if_pos hh]
      exact ⟨_, rfl, Ev.now _, by simp [outE]⟩
    · simp only [if_neg hh]
      rcases cst_ok hC h hh with e | ⟨p1, r1, e, ho⟩
      · rw [e]
        exact ⟨_, rfl, Ev.now _, by simp [outE]⟩
      · rw [e]
        simp only [Bool.false_eq_true, if_false, Option.bind_some, decide_eq_true_eq]
        by_cases hm : p1 ∈ pts
        · simp only [if_pos hm]
          refine ⟨_, rfl, ?_, by have := regs_len hC ho; simpa [outE] using this⟩
          rw [Ev_bind (In_ev p1 pts (by omega)), decide_eq_true hm]
          simp only [if_true]
          exact Ev.now _
        · simp only [if_neg hm]
          obtain ⟨z, hz, hev, hl⟩ := ih p1 r1 (i + 1) ho
          refine ⟨z, hz, ?_, hl⟩
          rw [Ev_bind (In_ev p1 pts (by omega)), decide_eq_false hm]
          simp only [Bool.false_eq_true, if_false]
          exact hev
theorem Points_ev (R : Int) (l : List S33) (pts : List Int) (hp : pts.length ≤ 4000) : ∀ (d i : Nat), i + d = pts.length → Ev (fun k => standstillref06_Points.l0 k pts (i : Int) R l) (pgo (l.length : Int) pts d (i : Int)) := by
  intro d
  induction d with
  | zero =>
    intro i hi
    rw [Ev_succ]
    simp only [standstillref06_Points.l0, Ev_ite, Ev_some, Ev_none, pgo]
    rw [if_neg (by omega)]
    trivial
  | succ d ih =>
    intro i hi
    rw [Ev_succ]
    simp only [standstillref06_Points.l0, standstillref06_index.f, pgo]
    have hw : wrap64 ((i : Int) + 1) = ((i + 1 : Nat) : Int) := by rw [wrap_id (by omega) (by omega)]; push_cast; rfl
    have hw2 : 0 < (i : Int) → wrap64 ((i : Int) - 1) = (i : Int) - 1 := fun h => wrap_id (by omega) (by omega)
    simp only [if_pos (show (i : Int) < (pts.length : Int) by omega), if_pos (show (0 : Int) ≤ (i : Int) by omega), hw]
    have ihh := ih (i + 1) (by omega)
    rw [show (((i + 1 : Nat) : Int)) = (i : Int) + 1 by push_cast; rfl] at ihh ⊢
    by_cases c1 : rd pts (i : Int) < 0
    · simp only [if_neg (show ¬ rd pts (i : Int) ≥ 0 by omega), if_pos c1, Option.bind_some, Bool.false_eq_true, if_false]
      exact Ev.now _
    simp only [if_pos (show rd pts (i : Int) ≥ 0 by omega), if_neg c1, Option.bind_some]
    by_cases c2 : (l.length : Int) ≤ rd pts (i : Int)
    · simp only [decide_eq_false (show ¬ rd pts (i : Int) < (l.length : Int) by omega), if_pos c2, Bool.false_eq_true, if_false]
      exact Ev.now _
    simp only [decide_eq_true (show rd pts (i : Int) < (l.length : Int) by omega), if_neg c2, if_true]
    by_cases c3 : (0 : Int) < (i : Int)
    · simp only [if_pos (show (i : Int) > 0 from c3), if_pos c3, hw2 c3, if_pos (show 0 ≤ (i : Int) - 1 by omega), if_pos (show (i : Int) - 1 < (pts.length : Int) by omega)]
      by_cases c4 : rd pts (i : Int) ≤ rd pts ((i : Int) - 1)
      · simp only [if_pos c4]
        exact Ev.now _
      · simp only [if_neg c4]
        exact ihh
    · simp only [if_neg (show ¬ (i : Int) > 0 from c3), if_neg c3]
      exact ihh
/-- The law's part about Step. -/
theorem law_step {R : Int} {l : List S33} {p : Int} {r : List Int} (hb : l.length * 32 ≤ 140737488351232) (hC : okC R l = true) (h : okS R l p r) : ∃ z, Ev (fun k => counter_Step.f k R l p r) z ∧ Ev (fun k => standstilllaw06_step.f k R l p r z.1 z.2.1 z.2.2) true := by
  have hF := counter_Fits_ev R l p r hb
  rw [okF_of hC h] at hF
  have hlen := regs_len hC h
  unfold counter_Step.f standstilllaw06_step.f
  simp only [rgo_eq hC h, Option.bind_some, if_pos (show r.length < 17592186044416 by omega)]
  have hc : crun l 1 p r 0 = _ := crun_succ hC h 0 0
  by_cases hh : (rd_T33 l p).f0 = 2
  · refine ⟨(0, [], 5), ?_, ?_⟩
    · rw [Ev_bind hF]
      simp only [if_true, if_pos (And.intro h.1 h.2.1), if_pos hh]
      exact Ev.now _
    · simp only [if_pos hh, if_true]
      exact sameCount_refl 0 [] (by simp)
  · rcases cst_ok hC h hh with e | ⟨p1, r1, e, ho⟩
    · refine ⟨(0, [], 4), ?_, ?_⟩
      · rw [Ev_bind hF]
        simp only [if_neg hh, e] at hc
        simp only [if_true, if_pos (And.intro h.1 h.2.1), if_neg hh, hc, Option.bind_some, Bool.false_eq_true, if_false]
        exact Ev.now _
      · simp only [if_neg hh, e, Bool.false_eq_true, if_false, if_true]
        exact sameCount_refl 0 [] (by simp)
    · refine ⟨(p1, r1, 0), ?_, ?_⟩
      · rw [Ev_bind hF]
        simp only [if_neg hh, e] at hc
        replace hc : crun l 1 p r 0 = some (p1, r1, 0 + 1, true) := hc.trans rfl
        simp only [if_true, if_pos (And.intro h.1 h.2.1), if_neg hh, hc, Option.bind_some]
        exact Ev.now _
      · simp only [if_neg hh, e, Bool.false_eq_true, if_false, if_true]
        exact sameCount_refl p1 r1 (regs_len hC ho)
/-- The law's part about Run. -/
theorem law_run {R : Int} {l : List S33} {p : Int} {r : List Int} (hb : l.length * 32 ≤ 140737488351232) (hC : okC R l = true) (h : okS R l p r) (n : Int) : ∃ z, Ev (fun k => counter_Run.f k R l p r n) z ∧ Ev (fun k => standstilllaw06_run.f k R l p r n z.1 z.2.1 z.2.2.1 z.2.2.2) true := by
  have hF := counter_Fits_ev R l p r hb
  rw [okF_of hC h] at hF
  have hlen := regs_len hC h
  by_cases hn : n < 0 ∨ 1000000 < n
  · refine ⟨(0, [], 0, 2), ?_, ?_⟩
    · unfold counter_Run.f
      rw [Ev_bind hF]
      simp only [if_true]
      rcases hn with hn | hn
      · rw [if_pos hn]; exact Ev.now _
      · rw [if_neg (by omega), if_pos hn]; exact Ev.now _
    · have key : Ev (fun k => standstilllaw06_run.j0 k n 0 2 true R l p r 0 []) true := by
        rw [Ev_succ]
        simp only [standstilllaw06_run.j0, if_true]
        rw [Ev_bind (sameCount_refl 0 [] (by simp))]
        exact Ev.now _
      unfold standstilllaw06_run.f
      simp only [Ev_ite]
      rcases hn with hn | hn
      · rw [if_pos hn]; exact key
      · rw [if_neg (by omega), decide_eq_true (show n > 1000000 from hn)]; exact key
  · obtain ⟨N, rfl⟩ := Int.eq_ofNat_of_zero_le (show 0 ≤ n by omega)
    have key : ∀ z : Int × List Int × Int × Bool, crun l N p r 0 = some z → z.2.1.length ≤ 100000 → ∃ y, Ev (fun k => counter_Run.f k R l p r (N : Int)) y ∧ Ev (fun k => standstilllaw06_run.f k R l p r (N : Int) y.1 y.2.1 y.2.2.1 y.2.2.2) true := by
      intro z hz hzl
      refine ⟨_, Run_ev hb hC h (by omega) hz, ?_⟩
      have hg : ∀ (q : Int) (s : List Int) (j : Int) (b : Bool), crun l N p r 0 = some (q, s, j, b) → s.length ≤ 100000 → (b = false → q = 0 ∧ s = [] ∧ j = 0) → Ev (fun k => standstilllaw06_run.f k R l p r (N : Int) q s j (if b = true then 0 else 4)) true := by
        intro q s j b hq hs hbf
        unfold standstilllaw06_run.f
        simp only [Ev_ite]
        rw [if_neg (by omega), decide_eq_false (by omega), Ev_succ]
        simp only [standstilllaw06_run.j0, standstillref06_Run.f, Bool.false_eq_true, if_false]
        rw [if_pos ⟨by omega, by omega, by omega⟩, Int.toNat_natCast, rrun_eq hC _ _ _ _ h, hq]
        simp only [Option.bind_some]
        have hsc := sameCount_refl q s hs
        cases b with
        | true =>
          simp only [if_true, beq_self_eq_true, Ev_ite]
          rw [Ev_bind hsc]
          exact Ev.now _
        | false =>
          simp only [Bool.false_eq_true, if_false, Ev_ite, if_true]
          rw [if_pos (by decide), Ev_bind hsc]
          simp only [if_true, beq_self_eq_true]
          exact Ev.now _
      rcases crun_ok hC N p r 0 h with ⟨p', r', j, e, ho, j0, j1⟩ | e
      · rw [hz] at e
        injection e with e
        subst e
        exact hg p' r' j true hz (regs_len hC ho) (fun h => by cases h)
      · rw [hz] at e
        injection e with e
        subst e
        exact hg 0 [] 0 false hz (by simp) (fun _ => ⟨rfl, rfl, rfl⟩)
    rcases crun_ok hC N p r 0 h with ⟨p', r', j, e, ho, j0, j1⟩ | e
    · exact key _ e (regs_len hC ho)
    · exact key _ e (by simp)
/-- The law's part about Until. -/
theorem law_until {R : Int} {l : List S33} {p : Int} {r : List Int} (hb : l.length * 32 ≤ 140737488351232) (hC : okC R l = true) (h : okS R l p r) (pts : List Int) (hp : pts.length ≤ 4000) (n : Int) : ∃ z, Ev (fun k => counter_Until.f k R l p r pts n) z ∧ Ev (fun k => standstilllaw06_until.f k R l p r pts n z.1 z.2.1 z.2.2.1 z.2.2.2) true := by
  have hF := counter_Fits_ev R l p r hb
  rw [okF_of hC h] at hF
  have hlen := regs_len hC h
  have hP := Points_ev R l pts hp pts.length 0 (by omega)
  have hP' : Ev (fun k => standstillref06_Points.f k R l pts) (pgo (l.length : Int) pts pts.length 0) := hP
  have key : Ev (fun k => standstilllaw06_until.j0 k pts n 0 2 true R l p r 0 []) true := by
    rw [Ev_succ]
    simp only [standstilllaw06_until.j0, if_true]
    rw [Ev_bind (sameCount_refl 0 [] (by simp))]
    exact Ev.now _
  by_cases hg : pgo (l.length : Int) pts pts.length 0 = true
  · by_cases hn : n < 1 ∨ 1000000 < n
    · refine ⟨(0, [], 0, 2), ?_, ?_⟩
      · unfold counter_Until.f
        simp only [Ev_ite, Ev_none]
        rw [if_pos (by omega), Ev_bind hF]
        simp only [if_true, if_pos hg]
        simp only [Ev_ite, Ev_none]
        rcases hn with hn | hn
        · rw [if_pos hn]; exact Ev.now _
        · rw [if_neg (by omega), if_pos hn]; exact Ev.now _
      · unfold standstilllaw06_until.f
        rw [Ev_bind hP', hg]
        simp only [if_true, Ev_ite]
        rcases hn with hn | hn
        · rw [if_pos hn]; exact key
        · rw [if_neg (by omega), decide_eq_true (show n > 1000000 from hn)]; exact key
    · obtain ⟨N, rfl⟩ := Int.eq_ofNat_of_zero_le (show 0 ≤ n by omega)
      obtain ⟨z, hz, hev, hzl⟩ := runtil_ev hC pts hp N p r 0 h
      have hE := crunE_ev hC (fun k at_ => (slices_BinarySearch_int_int.f k pts at_).map (·.2)) (fun a => decide (a ∈ pts)) (fun a => bs_ev pts a (pgo_rising hg) (by omega)) N p r 0 z h hz
      refine ⟨outE z, ?_, ?_⟩
      · unfold counter_Until.f
        simp only [Ev_ite, Ev_none]
        rw [if_pos (by omega), Ev_bind hF]
        simp only [if_true, if_pos hg, Int.toNat_natCast]
        simp only [Ev_ite, Ev_none]
        rw [if_neg (by omega), if_neg (by omega), if_pos (by omega), Ev_bind hE]
        simp only [Ev_ite, Ev_some, outE]
        split
        · split <;> rfl
        · rfl
      · unfold standstilllaw06_until.f
        rw [Ev_bind hP', hg]
        simp only [if_true, Ev_ite]
        rw [if_neg (by omega), decide_eq_false (by omega), Ev_succ]
        simp only [standstilllaw06_until.j0, standstillref06_Until.f, Bool.false_eq_true, if_false]
        simp only [if_pos (show r.length < 17592186044416 ∧ 0 ≤ (N : Int) ∧ (N : Int) ≤ 1000000 from ⟨by omega, by omega, by omega⟩), Int.toNat_natCast]
        rw [Int.zero_add] at hev
        rw [Ev_bind hev]
        simp only [if_true]
        rw [Ev_bind (sameCount_refl _ _ hzl)]
        simp only [if_true, beq_self_eq_true]
        exact Ev.now _
  · refine ⟨(0, [], 0, 2), ?_, ?_⟩
    · unfold counter_Until.f
      simp only [Ev_ite, Ev_none]
      rw [if_pos (by omega), Ev_bind hF]
      simp only [if_true, if_neg hg]
      exact Ev.now _
    · unfold standstilllaw06_until.f
      rw [Ev_bind hP', Bool.eq_false_iff.2 hg]
      simp only [Bool.false_eq_true, if_false]
      exact key
theorem cr_j1 {R : Int} {l : List S33} {p : Int} {r : List Int} (hb : l.length * 32 ≤ 140737488351232) (hrb : r.length ≤ 100) (pts : List Int) (hp : pts.length ≤ 4000) (n : Int) : Ev (fun k => standstilllaw06_CounterRuns.j1 k pts n false R l p r) true := by
  rw [Ev_succ]
  simp only [standstilllaw06_CounterRuns.j1, Bool.false_eq_true, if_false]
  have hRF := ref_Fits_ev R l p r hb
  have hF := counter_Fits_ev R l p r hb
  have hs0 := sameCount_refl 0 [] (by simp)
  cases hf : okF R l p r with
  | true =>
    rw [hf] at hRF
    obtain ⟨hC, h⟩ := okS_of hf
    obtain ⟨z1, a1, b1⟩ := law_step hb hC h
    obtain ⟨z2, a2, b2⟩ := law_run hb hC h n
    obtain ⟨z3, a3, b3⟩ := law_until hb hC h pts hp n
    rw [Ev_bind a1, Ev_bind a2, Ev_bind a3, Ev_bind hRF]
    simp only [if_true]
    rw [Ev_bind b1]
    simp only [if_true]
    rw [Ev_bind b2]
    simp only [if_true]
    rw [Ev_bind b3]
    simp only [if_true]
    exact awake_b
  | false =>
    rw [hf] at hRF hF
    have a1 : Ev (fun k => counter_Step.f k R l p r) (0, [], 1) := by
      unfold counter_Step.f
      rw [Ev_bind hF]
      simp only [Bool.false_eq_true, if_false]
      exact Ev.now _
    have a2 := counter_Run_bad (n := n) hb hf
    have a3 : Ev (fun k => counter_Until.f k R l p r pts n) (0, [], 0, 1) := by
      unfold counter_Until.f
      simp only [Ev_ite, Ev_none]
      rw [if_pos (by omega), Ev_bind hF]
      simp only [Bool.false_eq_true, if_false]
      exact Ev.now _
    rw [Ev_bind a1, Ev_bind a2, Ev_bind a3, Ev_bind hRF]
    simp only [Bool.false_eq_true, if_false, if_true]
    rw [Ev_bind hs0]
    simp only [if_true]
    rw [Ev_bind hs0]
    simp only [if_true]
    rw [Ev_bind hs0]
    simp only [if_true]
    exact awake_b
theorem CounterRuns : standstilllaw06_CounterRuns.Pure := by
  intro R l p r pts n _ hl _ _ _ _
  suffices h : Ev (fun kk => standstilllaw06_CounterRuns.f kk R l p r pts n) true by
    obtain ⟨K, h⟩ := h
    exact ⟨K, h K (Nat.le_refl _)⟩
  have hb := hl.1
  have hyes : Ev (fun kk => standstilllaw06_CounterRuns.j0 kk pts n true R l p r) true := by
    rw [Ev_succ]
    simp only [standstilllaw06_CounterRuns.j0, if_true]
    exact awake_b
  have hno : pts.length ≤ 4000 → r.length ≤ 100 → Ev (fun kk => standstilllaw06_CounterRuns.j0 kk pts n false R l p r) true := by
    intro hp hr
    rw [Ev_succ]
    simp only [standstilllaw06_CounterRuns.j0, Bool.false_eq_true, if_false]
    rw [Ev_bind (counter_Valid_ev R l hb), Ev_bind (ref_Valid_ev R l hb)]
    simp only [bne_self_eq_false, Bool.false_eq_true, if_false]
    rw [Ev_bind (counter_Fits_ev R l p r hb), Ev_bind (ref_Fits_ev R l p r hb)]
    simp only [bne_self_eq_false]
    exact cr_j1 hb hr pts hp n
  unfold standstilllaw06_CounterRuns.f standstilllaw06_wide.f
  have hwide : ∃ v, (if (l.length : Int) > 4000 then (some true) else (some (decide ((r.length : Int) > 100)))) = some v ∧ (v = false → r.length ≤ 100) := by
    split
    · exact ⟨_, rfl, fun h => by cases h⟩
    · exact ⟨_, rfl, fun h => by have := of_decide_eq_false h; omega⟩
  obtain ⟨v, hv, hv2⟩ := hwide
  rw [hv]
  simp only [Option.bind_some, Ev_ite]
  cases v with
  | true => exact hyes
  | false =>
    simp only [Bool.false_eq_true, if_false]
    split
    · exact hyes
    · rename_i hp
      split
      · by_cases c : n ≤ 1000000
        · rw [decide_eq_true c]; exact hyes
        · rw [decide_eq_false c]; exact hno (by omega) (hv2 rfl)
      · exact hno (by omega) (hv2 rfl)

end Go.Proofs.Ytkekehpfkfadfaa.Pure
