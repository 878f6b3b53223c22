/- The plain law of CounterNames: a register machine with renamed registers does the same, step by step, with the renamed contents. No condition beyond what every argument has (numbers of their kind, lists within memory). -/
import Derived.Test.YtkekehpfkfadfaaAid
import Derived.Test.YtkekehpfkfadfaaPCounterNamesx7
namespace Go.Proofs.Ytkekehpfkfadfaa.Pure
open Go.RowKit Go.Proofs.Ytkekehpfkfadfaa.PCounterNames Go.Proofs.YtkekehpfkfadfaaW.PrintWords Go.Proofs.YtkekehpfkfadfaaW.PrintLast Go.Proofs.YtkekehpfkfadfaaW.PrintMore Go.Proofs.YtkekehpfkfadfaaAid
set_option linter.unusedVariables false
set_option linter.unusedSimpArgs false

theorem rdT (l : List S33) (i : Nat) (h : i < l.length) : rd_T33 l (i : Int) = l[i] := by
  simp [rd_T33, List.getD, h]
/-- An instruction is right: for R registers and n instructions. -/
def okI (R n : Int) (x : S33) : Prop :=
  (x.f0 = 2 ∧ x.f1 = 0 ∧ x.f2 = 0 ∧ x.f3 = 0) ∨ (x.f0 = 0 ∧ 0 ≤ x.f1 ∧ x.f1 < R ∧ 0 ≤ x.f2 ∧ x.f2 < n ∧ x.f3 = 0) ∨ (x.f0 = 1 ∧ 0 ≤ x.f1 ∧ x.f1 < R ∧ 0 ≤ x.f2 ∧ x.f2 < n ∧ 0 ≤ x.f3 ∧ x.f3 < n)
instance (R n : Int) (x : S33) : Decidable (okI R n x) := by unfold okI; infer_instance
def okIb (R n : Int) (x : S33) : Bool := decide (okI R n x)
/-- A register machine is right. -/
def okC (R : Int) (l : List S33) : Bool := decide (1 ≤ R) && decide (R ≤ 16) && decide (1 ≤ l.length) && decide (l.length ≤ 2000) && l.all (okIb R l.length)

theorem cv_loop (R : Int) (l : List S33) (hn : l.length ≤ 2000) (hp : 1 ≤ l.length) : ∀ (d i : Nat), i + d = l.length → Ev (fun k => counter_Valid.l0 k (l.length : Int) l (l.length : Int) (i : Int) R l) ((l.drop i).all (okIb R l.length)) := by
  intro d
  induction d with
  | zero =>
    intro i hi
    rw [Ev_succ]
    simp only [counter_Valid.l0, Ev_ite, Ev_some, Ev_none]
    rw [if_neg (by omega), List.drop_eq_nil_of_le (by omega)]
    rfl
  | succ d ih =>
    intro i hi
    have hlt : i < l.length := by omega
    have ih := ih (i + 1) (by omega)
    rw [drop_cons l i hlt, List.all_cons, Ev_succ]
    simp only [counter_Valid.l0, Ev_ite, Ev_some, Ev_none]
    rw [if_pos (by omega), if_pos (by omega), if_pos (by omega), rdT l i hlt]
    have hw : wrap64 ((i : Int) + 1) = ((i + 1 : Nat) : Int) := by rw [wrap_id (by omega) (by omega)]; omega
    have hgo : okI R l.length l[i] → Ev (fun k => counter_Valid.l0 k (l.length : Int) l (l.length : Int) (wrap64 ((i : Int) + 1)) R l) (okIb R l.length l[i] && (l.drop (i + 1)).all (okIb R l.length)) := by
      intro h
      rw [hw, okIb, decide_eq_true h, Bool.true_and]
      exact ih
    have hno : ¬ okI R l.length l[i] → (false = (okIb R l.length l[i] && (l.drop (i + 1)).all (okIb R l.length))) := by
      intro h
      rw [okIb, decide_eq_false h, Bool.false_and]
    generalize hx : l[i] = x at hgo hno ⊢
    obtain ⟨f0, f1, f2, f3⟩ := x
    simp only
    by_cases h2 : f0 = 2
    · subst h2
      rw [if_pos rfl, Ev_succ]
      simp only [counter_Valid.j2, Ev_ite, Ev_some]
      by_cases hz : f1 = 0 ∧ f2 = 0 ∧ f3 = 0
      · obtain ⟨rfl, rfl, rfl⟩ := hz
        rw [if_neg (by simp), if_pos trivial]
        exact hgo (by simp [okI])
      · rw [if_pos (by simp; omega)]
        exact hno (by simp only [okI]; omega)
    · rw [if_neg h2, Ev_succ]
      simp only [counter_Valid.j2, Ev_ite, Ev_some]
      rw [if_neg (by simp), if_neg h2]
      have hj3 : ∀ b, (b = true → okIb R l.length ⟨f0, f1, f2, f3⟩ = false) → (b = false → 0 ≤ f1 ∧ f1 < R ∧ 0 ≤ f2 ∧ f2 < l.length ∧ (f0 = 0 ∨ f0 = 1)) → Ev (fun k => counter_Valid.j3 k (l.length : Int) l (l.length : Int) (i : Int) b R l f0 f1 f2 f3) (okIb R l.length ⟨f0, f1, f2, f3⟩ && (l.drop (i + 1)).all (okIb R l.length)) := by
        intro b hb1 hb2
        rw [Ev_succ]
        simp only [counter_Valid.j3, Ev_ite, Ev_some]
        cases b with
        | true =>
          rw [if_pos rfl, hb1 rfl]
          rfl
        | false =>
          obtain ⟨h1, h3, h4, h5, h6⟩ := hb2 rfl
          rw [if_neg (by simp)]
          by_cases h0 : f0 = 0
          · rw [if_pos h0]
            by_cases hz : f3 = 0
            · rw [if_pos hz, if_neg (by omega), if_neg (by omega)]
              exact hgo (by simp only [okI]; omega)
            · rw [if_neg hz]
              exact hno (by simp only [okI]; omega)
          · rw [if_neg h0]
            by_cases hz : f3 < 0
            · rw [if_pos hz]
              exact hno (by simp only [okI]; omega)
            · rw [if_neg hz]
              by_cases hz : f3 ≥ l.length
              · rw [if_pos hz]
                exact hno (by simp only [okI]; omega)
              · rw [if_neg hz]
                exact hgo (by simp only [okI]; omega)
      have hfalse : (¬ (0 ≤ f1 ∧ f1 < R ∧ 0 ≤ f2 ∧ f2 < l.length ∧ (f0 = 0 ∨ f0 = 1))) → okIb R l.length ⟨f0, f1, f2, f3⟩ = false := by
        intro h
        rw [okIb, decide_eq_false (by simp only [okI]; omega)]
      split <;> (repeat' split) <;> first | (refine hj3 _ (fun _ => hfalse (by omega)) (fun h => by cases h)) | (refine hj3 _ (fun h => hfalse (by simp at h; omega)) (fun h => by simp at h; omega))
theorem counter_Valid_ev (R : Int) (l : List S33) (hb : l.length * 32 ≤ 140737488351232) : Ev (fun k => counter_Valid.f k R l) (okC R l) := by
  have hj : ∀ b, (b = true → okC R l = false) → (b = false → l.length ≤ 2000 ∧ 1 ≤ l.length ∧ okC R l = l.all (okIb R l.length)) → Ev (fun k => counter_Valid.j0 k (l.length : Int) b R l) (okC R l) := by
    intro b h1 h2
    rw [Ev_succ]
    simp only [counter_Valid.j0, Ev_ite, Ev_some]
    cases b with
    | true => rw [if_pos rfl, h1 rfl]
    | false =>
      obtain ⟨h3, h4, h5⟩ := h2 rfl
      rw [if_neg (by simp), h5]
      exact cv_loop R l h3 h4 l.length 0 (by omega)
  unfold counter_Valid.f
  simp only [Ev_ite]
  have e : okC R l = (decide (1 ≤ R) && decide (R ≤ 16) && decide (1 ≤ l.length) && decide (l.length ≤ 2000) && l.all (okIb R l.length)) := rfl
  split
  · refine hj _ (fun _ => ?_) (fun h => by cases h)
    rw [e, decide_eq_false (by omega)]; rfl
  · split
    · refine hj _ (fun _ => ?_) (fun h => by cases h)
      rw [e, decide_eq_false (by omega : ¬ R ≤ 16)]; simp
    · split
      · refine hj _ (fun _ => ?_) (fun h => by cases h)
        rw [e, decide_eq_false (by omega : ¬ 1 ≤ l.length)]; simp
      · refine hj _ (fun h => ?_) (fun h => ?_)
        · have h := of_decide_eq_true h
          rw [e, decide_eq_false (by omega : ¬ l.length ≤ 2000)]; simp
        · have h := of_decide_eq_false h
          refine ⟨by omega, by omega, ?_⟩
          rw [e, decide_eq_true (by omega), decide_eq_true (by omega), decide_eq_true (by omega), decide_eq_true (by omega)]
          rfl

theorem rv_loop (R : Int) (l : List S33) (hn : l.length ≤ 2000) : ∀ (d i : Nat), i + d = l.length → Ev (fun k => standstillref06_Valid.l0 k (i : Int) R l) ((l.drop i).all (okIb R l.length)) := by
  intro d
  induction d with
  | zero =>
    intro i hi
    rw [Ev_succ]
    simp only [standstillref06_Valid.l0, Ev_ite, Ev_some, Ev_none]
    rw [if_neg (by omega), List.drop_eq_nil_of_le (by omega)]
    rfl
  | succ d ih =>
    intro i hi
    have hlt : i < l.length := by omega
    have ih := ih (i + 1) (by omega)
    rw [drop_cons l i hlt, List.all_cons, Ev_succ]
    simp only [standstillref06_Valid.l0, Ev_ite, Ev_some, Ev_none]
    rw [if_pos (by omega), if_pos (by omega), rdT l i hlt]
    have hw : wrap64 ((i : Int) + 1) = ((i + 1 : Nat) : Int) := by rw [wrap_id (by omega) (by omega)]; omega
    have hgo : okI R l.length l[i] → Ev (fun k => standstillref06_Valid.l0 k (wrap64 ((i : Int) + 1)) R l) (okIb R l.length l[i] && (l.drop (i + 1)).all (okIb R l.length)) := by
      intro h
      rw [hw, okIb, decide_eq_true h, Bool.true_and]
      exact ih
    have hno : ¬ okI R l.length l[i] → (false = (okIb R l.length l[i] && (l.drop (i + 1)).all (okIb R l.length))) := by
      intro h
      rw [okIb, decide_eq_false h, Bool.false_and]
    generalize hx : l[i] = x at hgo hno ⊢
    obtain ⟨f0, f1, f2, f3⟩ := x
    simp only [okI] at hgo hno
    have hi : ∀ a : Int, standstillref06_index.f R l a = some (decide (0 ≤ a ∧ a < l.length)) := by
      intro a
      unfold standstillref06_index.f
      by_cases h : a ≥ 0
      · rw [if_pos h]; simp [h]
      · rw [if_neg h, decide_eq_false (by omega)]
    simp only [hi, Option.bind_some, Ev_ite, Ev_some]
    repeat' split
    all_goals first | (refine hgo ?_; simp_all; omega) | (refine hno ?_; simp_all; omega) | (exfalso; simp_all; omega) | (refine hgo ?_; simp_all; done) | (refine hno ?_; simp_all; done)

theorem ref_Valid_ev (R : Int) (l : List S33) (hb : l.length * 32 ≤ 140737488351232) : Ev (fun k => standstillref06_Valid.f k R l) (okC R l) := by
  have hj : ∀ b, (b = true → okC R l = false) → (b = false → l.length ≤ 2000 ∧ okC R l = l.all (okIb R l.length)) → Ev (fun k => standstillref06_Valid.j0 k b R l) (okC R l) := by
    intro b h1 h2
    rw [Ev_succ]
    simp only [standstillref06_Valid.j0, Ev_ite, Ev_some]
    cases b with
    | true => rw [if_pos rfl, h1 rfl]
    | false =>
      obtain ⟨h3, h5⟩ := h2 rfl
      rw [if_neg (by simp), h5]
      exact rv_loop R l h3 l.length 0 (by omega)
  unfold standstillref06_Valid.f
  simp only [Ev_ite]
  have e : okC R l = (decide (1 ≤ R) && decide (R ≤ 16) && decide (1 ≤ l.length) && decide (l.length ≤ 2000) && l.all (okIb R l.length)) := rfl
  split
  · refine hj _ (fun _ => ?_) (fun h => by cases h)
    rw [e, decide_eq_false (by omega)]; rfl
  · split
    · refine hj _ (fun _ => ?_) (fun h => by cases h)
      rw [e, decide_eq_false (by omega : ¬ R ≤ 16)]; simp
    · split
      · refine hj _ (fun _ => ?_) (fun h => by cases h)
        rw [e, decide_eq_false (by omega : ¬ 1 ≤ l.length)]; simp
      · refine hj _ (fun h => ?_) (fun h => ?_)
        · have h := of_decide_eq_true h
          rw [e, decide_eq_false (by omega : ¬ l.length ≤ 2000)]; simp
        · have h := of_decide_eq_false h
          refine ⟨by omega, ?_⟩
          rw [e, decide_eq_true (by omega), decide_eq_true (by omega), decide_eq_true (by omega), decide_eq_true (by omega)]
          rfl
theorem okC_true {R : Int} {l : List S33} (h : okC R l = true) : 1 ≤ R ∧ R ≤ 16 ∧ 1 ≤ l.length ∧ l.length ≤ 2000 ∧ ∀ x ∈ l, okI R l.length x := by
  simp only [okC, okIb, Bool.and_eq_true, decide_eq_true_eq, List.all_eq_true] at h
  exact ⟨h.1.1.1.1, h.1.1.1.2, h.1.1.2, h.1.2, h.2⟩
theorem okC_mk {R : Int} {l : List S33} (h : 1 ≤ R ∧ R ≤ 16 ∧ 1 ≤ l.length ∧ l.length ≤ 2000 ∧ ∀ x ∈ l, okI R l.length x) : okC R l = true := by
  simp only [okC, okIb, Bool.and_eq_true, decide_eq_true_eq, List.all_eq_true]
  exact ⟨⟨⟨⟨h.1, h.2.1⟩, h.2.2.1⟩, h.2.2.2.1⟩, h.2.2.2.2⟩


theorem getD_lt {α : Type} (l : List α) {i : Nat} (d : α) (h : i < l.length) : l.getD i d = l[i] := by
  simp [List.getD_eq_getElem?_getD, h]
theorem okC_ne {R : Int} {l : List S33} (h : okC R l = true) : ∀ i : Nat, i < l.length → okI R l.length (l.getD i z33) := by
  intro i hi
  rw [getD_lt _ _ hi]
  exact (okC_true h).2.2.2.2 _ (List.getElem_mem hi)
/-! A state fits. -/
def regOk (x : Int) : Bool := decide (0 ≤ x) && decide (x ≤ 1152921504606846976)
def okF (R : Int) (l : List S33) (p : Int) (r : List Int) : Bool := okC R l && (decide (0 ≤ p) && decide (p < l.length) && decide ((r.length : Int) = R) && r.all regOk)
theorem cf_loop (r : List Int) (hn : r.length ≤ 100000000) : ∀ (d i : Nat), i + d = r.length → Ev (fun k => counter_fits.l0 k r (r.length : Int) (i : Int)) ((r.drop i).all regOk) := by
  intro d
  induction d with
  | zero =>
    intro i hi
    rw [Ev_succ]
    simp only [counter_fits.l0, Ev_ite, Ev_some, Ev_none]
    rw [if_neg (by omega), List.drop_eq_nil_of_le (by omega)]
    rfl
  | succ d ih =>
    intro i hi
    have hlt : i < r.length := by omega
    have ih := ih (i + 1) (by omega)
    rw [drop_cons r i hlt, List.all_cons, Ev_succ]
    simp only [counter_fits.l0, Ev_ite, Ev_some, Ev_none]
    have hw : wrap64 ((i : Int) + 1) = ((i + 1 : Nat) : Int) := by rw [wrap_id (by omega) (by omega)]; omega
    rw [if_pos (by omega), if_pos (by omega), if_pos (by omega), rd_nat r i hlt, hw]
    by_cases h0 : r[i] < 0
    · rw [if_pos h0, regOk, decide_eq_false (by omega)]; rfl
    · rw [if_neg h0]
      by_cases h1 : r[i] > 1152921504606846976
      · rw [if_pos h1, regOk, decide_eq_true (by omega), decide_eq_false (by omega)]; rfl
      · rw [if_neg h1, regOk, decide_eq_true (by omega), decide_eq_true (by omega)]
        exact ih
theorem rf_loop (r : List Int) (p : Int) (hn : r.length ≤ 100000000) : ∀ (d i : Nat), i + d = r.length → Ev (fun k => standstillref06_Fits.l0 k (i : Int) p r) ((r.drop i).all regOk) := by
  intro d
  induction d with
  | zero =>
    intro i hi
    rw [Ev_succ]
    simp only [standstillref06_Fits.l0, Ev_ite, Ev_some, Ev_none]
    rw [if_neg (by omega), List.drop_eq_nil_of_le (by omega)]
    rfl
  | succ d ih =>
    intro i hi
    have hlt : i < r.length := by omega
    have ih := ih (i + 1) (by omega)
    rw [drop_cons r i hlt, List.all_cons, Ev_succ]
    simp only [standstillref06_Fits.l0, Ev_ite, Ev_some, Ev_none]
    have hw : wrap64 ((i : Int) + 1) = ((i + 1 : Nat) : Int) := by rw [wrap_id (by omega) (by omega)]; omega
    rw [if_pos (by omega), if_pos (by omega), rd_nat r i hlt, hw]
    by_cases h0 : r[i] < 0
    · rw [if_pos h0, regOk, decide_eq_false (by omega)]; rfl
    · rw [if_neg h0]
      by_cases h1 : r[i] > 1152921504606846976
      · rw [if_pos h1, regOk, decide_eq_true (by omega), decide_eq_false (by omega)]; rfl
      · rw [if_neg h1, regOk, decide_eq_true (by omega), decide_eq_true (by omega)]
        exact ih
theorem counter_Fits_ev (R : Int) (l : List S33) (p : Int) (r : List Int) (hb : l.length * 32 ≤ 140737488351232) : Ev (fun k => counter_Fits.f k R l p r) (okF R l p r) := by
  unfold counter_Fits.f
  rw [Ev_bind (counter_Valid_ev R l hb)]
  simp only [Ev_ite, Ev_some]
  by_cases hv : okC R l = true
  · rw [if_pos hv]
    have h16 := (okC_true hv).2.1
    have key : Ev (fun k => counter_fits.f k R l p r) (okF R l p r) := by
      unfold counter_fits.f okF
      rw [hv, Bool.true_and]
      simp only [Ev_ite]
      have hj : ∀ b, (b = true → ¬ (0 ≤ p ∧ p < l.length ∧ (r.length : Int) = R)) → (b = false → 0 ≤ p ∧ p < l.length ∧ (r.length : Int) = R) → Ev (fun k => counter_fits.j0 k b p r) (decide (0 ≤ p) && decide (p < l.length) && decide ((r.length : Int) = R) && r.all regOk) := by
        intro b h1 h2
        rw [Ev_succ]
        simp only [counter_fits.j0, Ev_ite, Ev_some]
        cases b with
        | true =>
          rw [if_pos rfl]
          have := h1 rfl
          by_cases c1 : 0 ≤ p
          · by_cases c2 : p < l.length
            · rw [decide_eq_false (by omega : ¬ ((r.length : Int) = R))]; simp
            · rw [decide_eq_false c2]; simp
          · rw [decide_eq_false c1]; simp
        | false =>
          obtain ⟨c1, c2, c3⟩ := h2 rfl
          rw [if_neg (by simp), decide_eq_true c1, decide_eq_true c2, decide_eq_true c3]
          exact cf_loop r (by omega) r.length 0 (by omega)
      split
      · exact hj _ (fun _ => by omega) (fun h => by cases h)
      · split
        · exact hj _ (fun _ => by omega) (fun h => by cases h)
        · exact hj _ (fun h => by simp at h; omega) (fun h => by simp at h; omega)
    rw [Ev_bind key, Ev_some]
  · rw [if_neg hv]
    simp only [okF, Bool.eq_false_iff.2 hv, Bool.false_and]
theorem ref_Fits_ev (R : Int) (l : List S33) (p : Int) (r : List Int) (hb : l.length * 32 ≤ 140737488351232) : Ev (fun k => standstillref06_Fits.f k R l p r) (okF R l p r) := by
  unfold standstillref06_Fits.f
  rw [Ev_bind (ref_Valid_ev R l hb)]
  have hi : standstillref06_index.f R l p = some (decide (0 ≤ p ∧ p < l.length)) := by
    unfold standstillref06_index.f
    by_cases h : p ≥ 0
    · rw [if_pos h]; simp [h]
    · rw [if_neg h, decide_eq_false (by omega)]
  simp only [hi, Option.bind_some, Ev_ite, decide_eq_true_eq]
  have hj : ∀ b, (b = true → okF R l p r = false) → (b = false → r.length ≤ 100000000 ∧ okF R l p r = r.all regOk) → Ev (fun k => standstillref06_Fits.j0 k b p r) (okF R l p r) := by
    intro b h1 h2
    rw [Ev_succ]
    simp only [standstillref06_Fits.j0, Ev_ite, Ev_some]
    cases b with
    | true => rw [if_pos rfl, h1 rfl]
    | false =>
      obtain ⟨c1, c2⟩ := h2 rfl
      rw [if_neg (by simp), c2]
      exact rf_loop r p c1 r.length 0 (by omega)
  by_cases hv : okC R l = true
  · have h16 := (okC_true hv).2.1
    rw [if_pos hv]
    by_cases hp : 0 ≤ p ∧ p < l.length
    · rw [if_pos hp]
      refine hj _ (fun h => ?_) (fun h => ?_)
      · have h : ¬ (r.length : Int) = R := by simp at h; omega
        simp [okF, decide_eq_false h]
      · have h : (r.length : Int) = R := by simp at h; omega
        refine ⟨by omega, ?_⟩
        rw [okF, hv, decide_eq_true hp.1, decide_eq_true hp.2, decide_eq_true h]
        rfl
    · rw [if_neg hp]
      refine hj _ (fun _ => ?_) (fun h => by cases h)
      by_cases c1 : 0 ≤ p
      · simp [okF, decide_eq_false (show ¬ p < l.length by omega)]
      · simp [okF, decide_eq_false c1]
  · rw [if_neg hv]
    refine hj _ (fun _ => ?_) (fun h => by cases h)
    simp only [okF, Bool.eq_false_iff.2 hv, Bool.false_and]
theorem okF_true {R : Int} {l : List S33} {p : Int} {r : List Int} (h : okF R l p r = true) : okC R l = true ∧ 0 ≤ p ∧ p < l.length ∧ (r.length : Int) = R ∧ ∀ x ∈ r, 0 ≤ x ∧ x ≤ 1152921504606846976 := by
  simp only [okF, regOk, Bool.and_eq_true, decide_eq_true_eq, List.all_eq_true] at h
  exact ⟨h.1, h.2.1.1.1, h.2.1.1.2, h.2.1.2, h.2.2⟩
theorem okF_mk {R : Int} {l : List S33} {p : Int} {r : List Int} (h : okC R l = true ∧ 0 ≤ p ∧ p < l.length ∧ (r.length : Int) = R ∧ ∀ x ∈ r, 0 ≤ x ∧ x ≤ 1152921504606846976) : okF R l p r = true := by
  simp only [okF, regOk, Bool.and_eq_true, decide_eq_true_eq, List.all_eq_true]
  exact ⟨h.1, ⟨⟨h.2.1, h.2.2.1⟩, h.2.2.2.1⟩, h.2.2.2.2⟩
theorem getD_set {α : Type} (l : List α) (i j : Nat) (v d : α) : (l.set i v).getD j d = if i = j ∧ j < l.length then v else l.getD j d := by
  simp only [List.getD_eq_getElem?_getD, List.getElem?_set]
  by_cases h : i = j
  · subst h
    by_cases h2 : i < l.length
    · simp [h2]
    · simp [h2]
  · simp [h]
theorem mem_getD {l : List Int} {i : Nat} (h : i < l.length) : l.getD i 0 ∈ l := by
  rw [getD_lt _ _ h]; exact List.getElem_mem h
/-- What Run answers. -/
def runOut (l : List S33) (d : Nat) (p : Int) (r : List Int) : Option (Int × List Int × Int × Int) := (crun l d p r 0).bind fun z => if z.2.2.2 = true then some (z.1, z.2.1, z.2.2.1, 0) else some (0, [], 0, 4)
theorem counter_Run_ev {R : Int} {l : List S33} {p : Int} {r : List Int} {n : Int} {z : Int × List Int × Int × Int} (hb : l.length * 32 ≤ 140737488351232) (hF : okF R l p r = true) (h0 : 0 ≤ n) (h1 : n ≤ 1000000) (hz : runOut l n.toNat p r = some z) : Ev (fun k => counter_Run.f k R l p r n) z := by
  unfold counter_Run.f
  rw [Ev_bind (counter_Fits_ev R l p r hb)]
  obtain ⟨hC, _, _, hl, _⟩ := okF_true hF
  have := (okC_true hC).2.1
  rw [hF]
  simp only [if_true, Ev_ite]
  rw [if_neg (by omega), if_neg (by omega), if_pos (by omega), Ev_const]
  exact hz

theorem wrap_nat (i : Nat) (h : i ≤ 4611686018427387904) : wrap64 ((i : Int) + 1) = ((i + 1 : Nat) : Int) := by
  rw [wrap_id (by omega) (by omega)]; omega
/-! Renaming. -/
def ren (tn : List Int) (x : S33) : S33 := if x.f0 = 2 then x else ⟨x.f0, rd tn x.f1, x.f2, x.f3⟩
/-- The registers of both machines are as the names tell. -/
structure Rel (R : Nat) (tn : List Int) (fr : Nat) (ex : Int) (l l' : List Int) : Prop where
  len : l.length = R
  len' : l'.length = R + 1
  same : ∀ j, j < R → l'.getD (tn.getD j 0).toNat 0 = l.getD j 0
  free : l'.getD fr 0 = ex
structure Nam (R : Nat) (tn : List Int) (fr : Nat) : Prop where
  lo : ∀ j, j < R → 0 ≤ tn.getD j 0
  hi : ∀ j, j < R → tn.getD j 0 ≤ R
  inj : ∀ i j, i < R → j < R → tn.getD i 0 = tn.getD j 0 → i = j
  fr : ∀ j, j < R → (tn.getD j 0).toNat ≠ fr
theorem Rel.set {R : Nat} {tn : List Int} {fr : Nat} {ex : Int} {l l' : List Int} (h : Rel R tn fr ex l l') (hN : Nam R tn fr) (i : Nat) (hi : i < R) (v : Int) : Rel R tn fr ex (l.set i v) (l'.set (tn.getD i 0).toNat v) := by
  have h1 := hN.lo i hi
  have h2 := hN.hi i hi
  refine ⟨by simp [h.len], by simp [h.len'], ?_, ?_⟩
  · intro j hj
    rw [getD_set, getD_set]
    have h3 := hN.lo j hj
    have h4 := hN.hi j hj
    by_cases e : i = j
    · subst e
      rw [if_pos ⟨rfl, by rw [h.len']; omega⟩, if_pos ⟨rfl, by rw [h.len]; omega⟩]
    · rw [if_neg (fun hh => e (hN.inj i j hi hj (by omega))), if_neg (fun hh => e hh.1)]
      exact h.same j hj
  · rw [getD_set, if_neg (fun hh => hN.fr i hi hh.1)]
    exact h.free
theorem crun_ren {R : Nat} {tn : List Int} {fr : Nat} {ex : Int} {code : List S33} (hN : Nam R tn fr) (hC : ∀ i : Nat, i < code.length → okI R code.length (code.getD i z33)) : ∀ (d : Nat) (p : Int) (l l' : List Int) (i : Int), 0 ≤ p → p < code.length → Rel R tn fr ex l l' →
    ∃ z z', crun code d p l i = some z ∧ crun (code.map (ren tn)) d p l' i = some z' ∧ ((z.2.2.2 = false ∧ z'.2.2.2 = false) ∨ (z.2.2.2 = true ∧ z'.2.2.2 = true ∧ z.1 = z'.1 ∧ z.2.2.1 = z'.2.2.1 ∧ Rel R tn fr ex z.2.1 z'.2.1)) := by
  intro d
  induction d with
  | zero =>
    intro p l l' i h0 h1 hr
    exact ⟨_, _, rfl, rfl, Or.inr ⟨rfl, rfl, rfl, rfl, hr⟩⟩
  | succ d ih =>
    intro p l l' i h0 h1 hr
    have hx := hC p.toNat (by omega)
    have e1 : rd_T33 code p = code.getD p.toNat z33 := rfl
    have e2 : rd_T33 (code.map (ren tn)) p = ren tn (rd_T33 code p) := by
      have hp : p.toNat < code.length := by omega
      simp [rd_T33, List.getD_eq_getElem?_getD, hp]
    rw [← e1] at hx
    simp only [crun]
    rw [e2]
    generalize rd_T33 code p = x at hx
    obtain ⟨f0, f1, f2, f3⟩ := x
    simp only [okI] at hx
    simp only [ren]
    rw [List.length_map, if_pos (show 0 ≤ p ∧ p < (code.length : Int) from ⟨h0, h1⟩), if_pos (show 0 ≤ p ∧ p < (code.length : Int) from ⟨h0, h1⟩)]
    by_cases c2 : f0 = 2
    · simp only [if_pos c2]
      exact ⟨_, _, rfl, rfl, Or.inr ⟨rfl, rfl, rfl, rfl, hr⟩⟩
    · simp only [if_neg c2]
      have hf1 : 0 ≤ f1 ∧ f1 < (R : Int) := by omega
      have hR : f1.toNat < R := by omega
      have n1 := hN.lo _ hR
      have n2 := hN.hi _ hR
      have hs := hr.same _ hR
      have er : rd tn f1 = tn.getD f1.toNat 0 := rfl
      have er2 : rd l f1 = l.getD f1.toNat 0 := rfl
      have er3 : rd l' (rd tn f1) = l.getD f1.toNat 0 := hs
      rw [if_pos (show 0 ≤ f1 ∧ f1 < (l.length : Int) by rw [hr.len]; exact hf1), if_pos (show 0 ≤ rd tn f1 ∧ rd tn f1 < (l'.length : Int) by rw [hr.len', er]; omega), er3, er2]
      by_cases c0 : f0 = 0
      · simp only [if_pos c0]
        by_cases cm : l.getD f1.toNat 0 = 1152921504606846976
        · simp only [if_pos cm]
          exact ⟨_, _, rfl, rfl, Or.inl ⟨rfl, rfl⟩⟩
        · simp only [if_neg cm]
          exact ih _ _ _ _ (by omega) (by omega) (hr.set hN _ hR _)
      · have c1 : f0 = 1 := by omega
        simp only [if_neg c0, if_pos c1]
        by_cases cm : l.getD f1.toNat 0 = 0
        · simp only [if_pos cm]
          exact ih _ _ _ _ (by omega) (by omega) hr
        · simp only [if_neg cm]
          exact ih _ _ _ _ (by omega) (by omega) (hr.set hN _ hR _)

theorem awake_true : Ev (fun k => standstilllaw06_awake.f k) true := Ev.of (k := 200) standstilllaw06_awake.mono (by decide +kernel)

section
variable (R : Nat) (code : List S33) (p : Int) (regs tn : List Int) (ex n : Int)
theorem cn_l3 (l l' : List Int) (q q' : Int) (fr : Nat) (hR : R ≤ 16) (hto : tn.length = R) (hN : Nam R tn fr) (hr : Rel R tn fr ex l l') : ∀ (d i : Nat), i + d = R → Ev (fun k => standstilllaw06_CounterNames.l3 k tn (i : Int) (R : Int) code q l q' l') true := by
  intro d
  induction d with
  | zero =>
    intro i hi
    rw [Ev_succ]
    simp only [standstilllaw06_CounterNames.l3, Ev_ite, Ev_some, Ev_none]
    rw [if_neg (by omega), Ev_bind awake_true, Ev_some]
  | succ d ih =>
    intro i hi
    have h1 := hN.lo i (by omega)
    have h2 := hN.hi i (by omega)
    have h3 := hr.same i (by omega)
    have e1 : rd tn (i : Int) = tn.getD i 0 := rfl
    have e2 : rd l (i : Int) = l.getD i 0 := rfl
    have e3 : rd l' (tn.getD i 0) = l.getD i 0 := h3
    rw [Ev_succ]
    simp only [standstilllaw06_CounterNames.l3, Ev_ite, Ev_some, Ev_none]
    rw [e1, e2, e3, wrap_nat i (by omega)]
    clear e1 e2 e3 h3
    rw [if_pos (by omega), if_pos (by omega), if_pos (by omega), if_pos h1, if_pos (by rw [hr.len']; omega), if_pos (by rw [hr.len]; omega), if_pos rfl]
    exact ih (i + 1) (by omega)
theorem cn_end (x11 : List Int) (fr : Nat) (hb : code.length * 32 ≤ 140737488351232) (hF : okF R code p regs = true) (hR : R < 16) (hto : tn.length = R) (hn0 : 0 ≤ n) (hn : n ≤ 2000) (hfr : fr < R + 1) (hN : Nam R tn fr) (hr : Rel R tn fr ex regs x11) (hv : ∀ x ∈ x11, 0 ≤ x ∧ x ≤ 1152921504606846976) :
    Ev (fun k => standstilllaw06_CounterNames.l2 k tn ex n x11 (fr : Int) (code.length : Int) (R : Int) code p regs ((R : Int) + 1) (code.map (ren tn))) true := by
  obtain ⟨hC, hp0, hp1, hl, hrg⟩ := okF_true hF
  obtain ⟨hc1, hc2, hc3, hc4, hc5⟩ := okC_true hC
  have hC' : okC ((R : Int) + 1) (code.map (ren tn)) = true := by
    refine okC_mk ⟨by omega, by omega, by simpa using hc3, by simpa using hc4, ?_⟩
    intro y hy
    obtain ⟨x, hx, rfl⟩ := List.mem_map.1 hy
    have := hc5 x hx
    obtain ⟨f0, f1, f2, f3⟩ := x
    simp only [okI] at this
    simp only [ren, List.length_map]
    by_cases c2 : f0 = 2
    · simp only [if_pos c2, okI]
      omega
    · simp only [if_neg c2, okI]
      have hR : f1.toNat < R := by omega
      have n1 := hN.lo _ hR
      have n2 := hN.hi _ hR
      have er : rd tn f1 = tn.getD f1.toNat 0 := rfl
      rw [er]
      omega
  have hF' : okF ((R : Int) + 1) (code.map (ren tn)) p x11 = true := okF_mk ⟨hC', hp0, by simpa using hp1, by rw [hr.len']; omega, hv⟩
  obtain ⟨z, z', hz, hz', hcase⟩ := crun_ren (ex := ex) hN (okC_ne hC) n.toNat p regs x11 0 hp0 hp1 hr
  rw [Ev_succ]
  simp only [standstilllaw06_CounterNames.l2, Ev_ite, Ev_some, Ev_none]
  rw [if_neg (by omega), wrap_id (x := n) (by omega) (by omega)]
  rcases hcase with ⟨hb1, hb2⟩ | ⟨hb1, hb2, hq, hi, hrel⟩
  · have hr1 : runOut code n.toNat p regs = some (0, [], 0, 4) := by simp [runOut, hz, hb1]
    have hr2 : runOut (code.map (ren tn)) n.toNat p x11 = some (0, [], 0, 4) := by simp [runOut, hz', hb2]
    rw [Ev_bind (counter_Run_ev hb hF hn0 (by omega) hr1), Ev_bind (counter_Run_ev (by simpa using hb) hF' hn0 (by omega) hr2)]
    simp only [Ev_ite]
    rw [if_pos trivial, Ev_succ]
    simp only [standstilllaw06_CounterNames.j4, Ev_ite, Ev_some, Ev_none]
    rw [if_pos (by rfl), if_pos trivial, Ev_bind awake_true, Ev_some]
  · have hr1 : runOut code n.toNat p regs = some (z.1, z.2.1, z.2.2.1, 0) := by simp [runOut, hz, hb1]
    have hr2 : runOut (code.map (ren tn)) n.toNat p x11 = some (z'.1, z'.2.1, z'.2.2.1, 0) := by simp [runOut, hz', hb2]
    rw [Ev_bind (counter_Run_ev hb hF hn0 (by omega) hr1), Ev_bind (counter_Run_ev (by simpa using hb) hF' hn0 (by omega) hr2)]
    have hl1 := hrel.len
    have hl2 := hrel.len'
    simp only [Ev_ite]
    rw [if_pos trivial, Ev_succ]
    simp only [standstilllaw06_CounterNames.j4, Ev_ite, Ev_some, Ev_none]
    rw [if_neg (by simp), if_pos hi, if_pos hq, if_pos (by omega), if_pos (by rw [wrap_id (x := (R : Int) + 1) (by omega) (by omega)]; omega), if_pos (by omega), if_pos (by omega), show rd z'.2.1 (fr : Int) = ex from hrel.free, Ev_succ]
    simp only [standstilllaw06_CounterNames.j5, Ev_ite, Ev_some, Ev_none]
    rw [if_neg (by simp)]
    exact cn_l3 R code tn ex z.2.1 z'.2.1 z.1 z'.1 fr (by omega) hto hN hrel R 0 (by omega)
theorem cn_l2 (x11 : List Int) (fr : Nat) (hb : code.length * 32 ≤ 140737488351232) (hF : okF R code p regs = true) (hR : R < 16) (hto : tn.length = R) (hn0 : 0 ≤ n) (hn : n ≤ 2000) (hfr : fr < R + 1) (hN : Nam R tn fr) (hr : Rel R tn fr ex regs x11) (hv : ∀ x ∈ x11, 0 ≤ x ∧ x ≤ 1152921504606846976) : ∀ (d i : Nat), i + d = code.length →
    Ev (fun k => standstilllaw06_CounterNames.l2 k tn ex n x11 (fr : Int) (i : Int) (R : Int) code p regs ((R : Int) + 1) ((code.take i).map (ren tn))) true := by
  intro d
  induction d with
  | zero =>
    intro i hi
    have hi : i = code.length := by omega
    subst hi
    rw [List.take_length]
    exact cn_end R code p regs tn ex n x11 fr hb hF hR hto hn0 hn hfr hN hr hv
  | succ d ih =>
    intro i hi
    have hlt : i < code.length := by omega
    have ih := ih (i + 1) (by omega)
    rw [take_snoc code i hlt, List.map_append, List.map_cons, List.map_nil] at ih
    obtain ⟨hC, hp0, hp1, hl, hrg⟩ := okF_true hF
    have hx := (okC_true hC).2.2.2.2 _ (List.getElem_mem hlt)
    have h2 := (okC_true hC).2.2.2.1
    rw [Ev_succ]
    simp only [standstilllaw06_CounterNames.l2, Ev_ite, Ev_some, Ev_none]
    rw [if_pos (by omega), if_pos (by omega), rdT code i hlt, wrap_nat i (by omega)]
    have hlen : ((code.take i).map (ren tn)).length < 4398046511104 := by simp; omega
    simp only [if_pos hlen]
    generalize code[i] = x at ih hx
    obtain ⟨f0, f1, f2, f3⟩ := x
    simp only [okI] at hx
    simp only [ren] at ih
    by_cases c2 : f0 = 2
    · simp only [if_pos c2] at ih ⊢
      exact ih
    · simp only [if_neg c2] at ih ⊢
      rw [if_pos (by omega), if_pos (by omega)]
      exact ih
theorem cn_l1 (x11 : List Int) (met : List Bool) (hb : code.length * 32 ≤ 140737488351232) (hF : okF R code p regs = true) (hR : R < 16) (hto : tn.length = R) (hn0 : 0 ≤ n) (hn : n ≤ 2000) (hx0 : 0 ≤ ex) (hx1 : ex ≤ 1152921504606846976)
    (hl : x11.length = R + 1) (hm : met.length = R + 1) (lo : ∀ j, j < R → 0 ≤ tn.getD j 0) (hi : ∀ j, j < R → tn.getD j 0 ≤ R) (inj : ∀ i j, i < R → j < R → tn.getD i 0 = tn.getD j 0 → i = j)
    (hmet : ∀ j, j < R → met.getD (tn.getD j 0).toNat false = true) (hs : ∀ j, j < R → x11.getD (tn.getD j 0).toNat 0 = regs.getD j 0) (hv : ∀ x ∈ x11, 0 ≤ x ∧ x ≤ 1152921504606846976) : ∀ (d i : Nat), i + d = R + 1 → (∃ j, i ≤ j ∧ j < R + 1 ∧ met.getD j false = false) →
    Ev (fun k => standstilllaw06_CounterNames.l1 k tn ex n x11 met (i : Int) (R : Int) code p regs) true := by
  intro d
  induction d with
  | zero =>
    rintro i hi ⟨j, h1, h2, _⟩
    omega
  | succ d ih =>
    rintro i hid ⟨j, h1, h2, h3⟩
    have e : rdOf false met (i : Int) = met.getD i false := rfl
    rw [Ev_succ]
    simp only [standstilllaw06_CounterNames.l1, Ev_ite, Ev_some, Ev_none]
    rw [e, wrap_nat i (by omega), wrap_id (x := (R : Int) + 1) (by omega) (by omega)]
    clear e
    rw [if_pos (by omega), if_pos (by omega)]
    by_cases c : met.getD i false = true
    · rw [if_pos c]
      refine ih (i + 1) (by omega) ⟨j, ?_, h2, h3⟩
      rcases Nat.lt_or_ge i j with h | h
      · exact h
      · have : i = j := by omega
        subst this
        rw [h3] at c
        cases c
    · rw [if_neg c, if_pos (by omega)]
      have hfr : ∀ j, j < R → (tn.getD j 0).toNat ≠ i := by
        intro j hj he
        exact c (he ▸ hmet j hj)
      have hrl : (regs.length : Int) = R := (okF_true hF).2.2.2.1
      refine cn_l2 R code p regs tn ex n (x11.set i ex) i hb hF hR hto hn0 hn (by omega) ⟨lo, hi, inj, hfr⟩ ⟨by omega, by simpa using hl, ?_, ?_⟩ ?_ code.length 0 (by omega)
      · intro j hj
        rw [getD_set, if_neg (fun hh => hfr j hj hh.1.symm)]
        exact hs j hj
      · rw [getD_set, if_pos ⟨rfl, by omega⟩]
      · intro x hx
        rcases List.mem_or_eq_of_mem_set hx with h | h
        · exact hv x h
        · subst h; exact ⟨hx0, hx1⟩
theorem cn_l0 (hb : code.length * 32 ≤ 140737488351232) (hF : okF R code p regs = true) (hR : R < 16) (hto : tn.length = R) (hn0 : 0 ≤ n) (hn : n ≤ 2000) (hx0 : 0 ≤ ex) (hx1 : ex ≤ 1152921504606846976) : ∀ (d i : Nat) (x11 : List Int) (met : List Bool), i + d = R →
    x11.length = R + 1 → met.length = R + 1 → met.count true = i → (∀ j, j < i → 0 ≤ tn.getD j 0) → (∀ j, j < i → tn.getD j 0 ≤ R) → (∀ a b, a < i → b < i → tn.getD a 0 = tn.getD b 0 → a = b) →
    (∀ j, j < i → met.getD (tn.getD j 0).toNat false = true) → (∀ j, j < i → x11.getD (tn.getD j 0).toNat 0 = regs.getD j 0) → (∀ x ∈ x11, 0 ≤ x ∧ x ≤ 1152921504606846976) →
    Ev (fun k => standstilllaw06_CounterNames.l0 k tn ex n x11 met (i : Int) (R : Int) code p regs) true := by
  intro d
  induction d with
  | zero =>
    intro i x11 met hid hl hm hcnt lo hi inj hmet hs hv
    have : i = R := by omega
    subst this
    rw [Ev_succ]
    simp only [standstilllaw06_CounterNames.l0, Ev_ite, Ev_some, Ev_none]
    rw [if_neg (by omega)]
    refine cn_l1 i code p regs tn ex n x11 met hb hF hR hto hn0 hn hx0 hx1 hl hm lo hi inj hmet hs hv (i + 1) 0 (by omega) ?_
    apply Classical.byContradiction
    intro hno
    have hall : ∀ b ∈ met, true = b := by
      intro b hb
      obtain ⟨j, hj, rfl⟩ := List.mem_iff_getElem.1 hb
      cases hc : met[j] with
      | true => rfl
      | false => exact absurd ⟨j, by omega, by omega, by rw [getD_lt _ _ hj, hc]⟩ hno
    have := List.count_eq_length.2 hall
    omega
  | succ d ih =>
    intro i x11 met hid hl hm hcnt lo hi inj hmet hs hv
    have e1 : rd tn (i : Int) = tn.getD i 0 := rfl
    have e2 : rd regs (i : Int) = regs.getD i 0 := rfl
    have hrl : (regs.length : Int) = R := (okF_true hF).2.2.2.1
    rw [Ev_succ]
    simp only [standstilllaw06_CounterNames.l0, Ev_ite, Ev_some, Ev_none]
    rw [e1, e2, wrap_nat i (by omega)]
    clear e1 e2
    rw [if_pos (by omega), if_pos (by omega), if_pos (by omega)]
    by_cases c0 : tn.getD i 0 < 0
    · rw [if_pos c0, Ev_bind awake_true, Ev_some]
    rw [if_neg c0]
    by_cases c1 : tn.getD i 0 > (R : Int)
    · rw [if_pos c1, Ev_bind awake_true, Ev_some]
    rw [if_neg c1, if_pos (by omega), if_pos (by omega)]
    have e3 : rdOf false met (tn.getD i 0) = met.getD (tn.getD i 0).toNat false := rfl
    rw [e3]
    clear e3
    by_cases c2 : met.getD (tn.getD i 0).toNat false = true
    · rw [if_pos c2, Ev_bind awake_true, Ev_some]
    rw [if_neg c2, if_pos (by omega), if_pos (by omega)]
    have hlt : (tn.getD i 0).toNat < met.length := by omega
    have hne : ∀ j, j < i → (tn.getD i 0).toNat ≠ (tn.getD j 0).toNat := by
      intro j hj he
      exact c2 (he ▸ hmet j hj)
    refine ih (i + 1) _ _ (by omega) (by simpa using hl) (by simpa using hm) ?_ ?_ ?_ ?_ ?_ ?_ ?_
    · rw [getD_lt _ _ hlt] at c2
      have hf : met[(tn.getD i 0).toNat] = false := Bool.eq_false_iff.2 c2
      rw [List.count_set hlt, hf, hcnt]
      rfl
    · intro j hj
      rcases Nat.lt_or_ge j i with h | h
      · exact lo j h
      · have : j = i := by omega
        subst this; omega
    · intro j hj
      rcases Nat.lt_or_ge j i with h | h
      · exact hi j h
      · have : j = i := by omega
        subst this; omega
    · intro a b ha hb' he
      rcases Nat.lt_or_ge a i with h | h
      · rcases Nat.lt_or_ge b i with h' | h'
        · exact inj a b h h' he
        · have : b = i := by omega
          subst this
          exact absurd (by rw [he]) (hne a h)
      · have : a = i := by omega
        subst this
        rcases Nat.lt_or_ge b a with h' | h'
        · exact absurd (by rw [he]) (hne b h')
        · omega
    · intro j hj
      rw [getD_set]
      by_cases hc : (tn.getD i 0).toNat = (tn.getD j 0).toNat ∧ (tn.getD j 0).toNat < met.length
      · rw [if_pos hc]
      · rw [if_neg hc]
        refine hmet j ?_
        rcases Nat.lt_or_ge j i with h | h
        · exact h
        · have : j = i := by omega
          subst this
          exact absurd ⟨rfl, hlt⟩ hc
    · intro j hj
      rw [getD_set]
      rcases Nat.lt_or_ge j i with h | h
      · rw [if_neg (fun hh => hne j h hh.1)]
        exact hs j h
      · have : j = i := by omega
        subst this
        rw [if_pos ⟨rfl, by omega⟩]
    · intro x hx
      rcases List.mem_or_eq_of_mem_set hx with h | h
      · exact hv x h
      · subst h
        exact (okF_true hF).2.2.2.2 _ (mem_getD (by omega))
end

theorem wf_u16 {x : Int} (h : (Lit.int .u16 x).wf = true) : 0 ≤ x ∧ x ≤ 65535 := by
  simp only [Lit.wf, IntKind.min, IntKind.max, IntKind.signed, IntKind.bits, Bool.and_eq_true, decide_eq_true_eq] at h
  simp at h
  omega
theorem CounterNames : standstilllaw06_CounterNames.Pure := by
  intro a0_0 l0_1 a1_0 l1_1 l2 a3 a4 h0 h1 h2 h3 h4 h5 h6
  suffices h : Ev (fun k => standstilllaw06_CounterNames.f k a0_0 l0_1 a1_0 l1_1 l2 a3 a4) true by
    obtain ⟨K, h⟩ := h
    exact ⟨K, h K (Nat.le_refl _)⟩
  have hj : ∀ b, (b = false → okF a0_0 l0_1 a1_0 l1_1 = true ∧ a0_0 < 16 ∧ (l2.length : Int) = a0_0 ∧ a4 ≤ 2000 ∧ 0 ≤ a3 ∧ a3 ≤ 1152921504606846976) → Ev (fun k => standstilllaw06_CounterNames.j0 k l2 a3 a4 b a0_0 l0_1 a1_0 l1_1) true := by
    intro b hb
    rw [Ev_succ]
    simp only [standstilllaw06_CounterNames.j0, Ev_ite, Ev_none]
    cases b with
    | true => rw [if_pos rfl, Ev_bind awake_true, Ev_some]
    | false =>
      obtain ⟨hF, hR, hto, hn, hx0, hx1⟩ := hb rfl
      obtain ⟨R, rfl⟩ : ∃ R : Nat, (R : Int) = a0_0 := ⟨l2.length, hto⟩
      have hw1 : wrap64 ((R : Int) + 1) = (R : Int) + 1 := wrap_id (by omega) (by omega)
      have e : ((R : Int) + 1).toNat = R + 1 := by omega
      rw [if_neg (by simp), hw1, e, if_pos (by omega), if_pos (by omega), if_pos (by omega)]
      refine cn_l0 R l0_1 a1_0 l1_1 l2 a3 a4 h1.1 hF (by omega) (by omega) (wf_u16 h6).1 hn hx0 hx1 R 0 _ _ (by omega) (by simp) (by simp) ?_ (fun j hj => by omega) (fun j hj => by omega) (fun a b ha => by omega) (fun j hj => by omega) (fun j hj => by omega) ?_
      · simp [List.count_replicate]
      · intro x hx
        rw [List.mem_replicate] at hx
        omega
  unfold standstilllaw06_CounterNames.f
  have hw : ∃ b, standstilllaw06_wide.f a0_0 l0_1 a1_0 l1_1 = some b := by
    unfold standstilllaw06_wide.f
    split <;> exact ⟨_, rfl⟩
  obtain ⟨b, hw⟩ := hw
  simp only [hw, Option.bind_some, Ev_ite]
  split
  · exact hj true (fun h => by cases h)
  · rw [Ev_bind (ref_Fits_ev a0_0 l0_1 a1_0 l1_1 h1.1)]
    simp only [Ev_ite]
    by_cases hF : okF a0_0 l0_1 a1_0 l1_1 = true
    · rw [if_pos hF]
      split
      · exact hj true (fun h => by cases h)
      split
      · exact hj true (fun h => by cases h)
      split
      · exact hj true (fun h => by cases h)
      split
      · exact hj true (fun h => by cases h)
      · exact hj _ (fun h => ⟨hF, by omega, by simp at h; omega, by omega, by omega, by omega⟩)
    · rw [if_neg hF]
      exact hj true (fun h => by cases h)

end Go.Proofs.Ytkekehpfkfadfaa.Pure
