/- The plain law of PairRuns: step by step, a register machine and the one with two registers pass through the same states. No condition beyond what every argument has. -/
import Derived.Test.YtkbekdjoaibhbaaTAid
import Derived.Test.YtkbekdjoaibhbaaPPairRunsx15
namespace Go.Proofs.Ytkbekdjoaibhbaa.Pure
open Go.RowKit Go.Proofs.Ytkbekdjoaibhbaa.PPairRuns Go.Proofs.YtkbekdjoaibhbaaW.PrintWords Go.Proofs.YtkbekdjoaibhbaaW.PrintLast Go.Proofs.YtkbekdjoaibhbaaW.PrintMore Go.Proofs.YtkbekdjoaibhbaaAid
set_option linter.unusedVariables false
set_option linter.unusedSimpArgs false

theorem sameCount_loop (q q' : Int) (l : List Int) (hl : l.length ≤ 100000) : ∀ (d i : Nat), i + d = l.length → Ev (fun k => standstillref06_SameCount.l0 k (i : Int) q l q' l) true := by
  intro d
  induction d with
  | zero =>
    intro i hi
    rw [Ev_succ]
    simp only [standstillref06_SameCount.l0, Ev_ite, Ev_none]
    rw [if_neg (by omega)]
    exact Ev.now _
  | succ d ih =>
    intro i hi
    have ih := ih (i + 1) (by omega)
    rw [Ev_succ]
    simp only [standstillref06_SameCount.l0, Ev_ite, Ev_none]
    rw [if_pos (by omega), if_pos (by omega), if_pos (by omega), if_pos trivial, wrap_id (by omega) (by omega)]
    exact ih
theorem sameCount_refl (p : Int) (l : List Int) (hl : l.length ≤ 100000) : Ev (fun k => standstillref06_SameCount.f k p l p l) true := by
  unfold standstillref06_SameCount.f
  simp only [if_true]
  rw [Ev_succ]
  simp only [standstillref06_SameCount.j0, Ev_ite]
  rw [if_neg (by simp)]
  exact sameCount_loop p p l hl l.length 0 (by omega)
theorem awake_ev : Ev (fun k => standstilllaw08_awake.f k) true := Ev.of (k := 200) standstilllaw08_awake.mono (by decide +kernel)
theorem awake_b : Ev (fun k => (standstilllaw08_awake.f k).bind fun t => some t) true := by
  rw [Ev_bind awake_ev]
  exact Ev.now _
theorem cast_succ (i : Nat) (h : i ≤ 1000000000) : wrap64 ((i : Int) + 1) = ((i + 1 : Nat) : Int) := by
  rw [wrap_id (by omega) (by omega)]
  push_cast
  rfl

theorem rdT (l : List S45) (i : Nat) (h : i < l.length) : rd_T45 l (i : Int) = l[i] := by
  simp [rd_T45, List.getD, h]
/-- An instruction is right: for R registers and n instructions. -/
def okI (R n : Int) (x : S45) : Prop :=
  (x.f0 = 2 ∧ x.f1 = 0 ∧ x.f2 = 0 ∧ x.f3 = 0) ∨ (x.f0 = 0 ∧ 0 ≤ x.f1 ∧ x.f1 < R ∧ 0 ≤ x.f2 ∧ x.f2 < n ∧ x.f3 = 0) ∨ (x.f0 = 1 ∧ 0 ≤ x.f1 ∧ x.f1 < R ∧ 0 ≤ x.f2 ∧ x.f2 < n ∧ 0 ≤ x.f3 ∧ x.f3 < n)
instance (R n : Int) (x : S45) : Decidable (okI R n x) := by unfold okI; infer_instance
def okIb (R n : Int) (x : S45) : Bool := decide (okI R n x)
/-- A register machine is right. -/
def okC (R : Int) (l : List S45) : Bool := decide (1 ≤ R) && decide (R ≤ 16) && decide (1 ≤ l.length) && decide (l.length ≤ 2000) && l.all (okIb R l.length)

theorem cv_loop (R : Int) (l : List S45) (hn : l.length ≤ 2000) (hp : 1 ≤ l.length) : ∀ (d i : Nat), i + d = l.length → Ev (fun k => counter_Valid.l0 k (l.length : Int) l (l.length : Int) (i : Int) R l) ((l.drop i).all (okIb R l.length)) := by
  intro d
  induction d with
  | zero =>
    intro i hi
    rw [Ev_succ]
    simp only [counter_Valid.l0, Ev_ite, Ev_some, Ev_none]
    rw [if_neg (by omega), List.drop_eq_nil_of_le (by omega)]
    rfl
  | succ d ih =>
    intro i hi
    have hlt : i < l.length := by omega
    have ih := ih (i + 1) (by omega)
    rw [drop_cons l i hlt, List.all_cons, Ev_succ]
    simp only [counter_Valid.l0, Ev_ite, Ev_some, Ev_none]
    rw [if_pos (by omega), if_pos (by omega), if_pos (by omega), rdT l i hlt]
    have hw : wrap64 ((i : Int) + 1) = ((i + 1 : Nat) : Int) := by rw [wrap_id (by omega) (by omega)]; omega
    have hgo : okI R l.length l[i] → Ev (fun k => counter_Valid.l0 k (l.length : Int) l (l.length : Int) (wrap64 ((i : Int) + 1)) R l) (okIb R l.length l[i] && (l.drop (i + 1)).all (okIb R l.length)) := by
      intro h
      rw [hw, okIb, decide_eq_true h, Bool.true_and]
      exact ih
    have hno : ¬ okI R l.length l[i] → (false = (okIb R l.length l[i] && (l.drop (i + 1)).all (okIb R l.length))) := by
      intro h
      rw [okIb, decide_eq_false h, Bool.false_and]
    generalize hx : l[i] = x at hgo hno ⊢
    obtain ⟨f0, f1, f2, f3⟩ := x
    simp only
    by_cases h2 : f0 = 2
    · subst h2
      rw [if_pos rfl, Ev_succ]
      simp only [counter_Valid.j2, Ev_ite, Ev_some]
      by_cases hz : f1 = 0 ∧ f2 = 0 ∧ f3 = 0
      · obtain ⟨rfl, rfl, rfl⟩ := hz
        rw [if_neg (by simp), if_pos trivial]
        exact hgo (by simp [okI])
      · rw [if_pos (by simp; omega)]
        exact hno (by simp only [okI]; omega)
    · rw [if_neg h2, Ev_succ]
      simp only [counter_Valid.j2, Ev_ite, Ev_some]
      rw [if_neg (by simp), if_neg h2]
      have hj3 : ∀ b, (b = true → okIb R l.length ⟨f0, f1, f2, f3⟩ = false) → (b = false → 0 ≤ f1 ∧ f1 < R ∧ 0 ≤ f2 ∧ f2 < l.length ∧ (f0 = 0 ∨ f0 = 1)) → Ev (fun k => counter_Valid.j3 k (l.length : Int) l (l.length : Int) (i : Int) b R l f0 f1 f2 f3) (okIb R l.length ⟨f0, f1, f2, f3⟩ && (l.drop (i + 1)).all (okIb R l.length)) := by
        intro b hb1 hb2
        rw [Ev_succ]
        simp only [counter_Valid.j3, Ev_ite, Ev_some]
        cases b with
        | true =>
          rw [if_pos rfl, hb1 rfl]
          rfl
        | false =>
          obtain ⟨h1, h3, h4, h5, h6⟩ := hb2 rfl
          rw [if_neg (by simp)]
          by_cases h0 : f0 = 0
          · rw [if_pos h0]
            by_cases hz : f3 = 0
            · rw [if_pos hz, if_neg (by omega), if_neg (by omega)]
              exact hgo (by simp only [okI]; omega)
            · rw [if_neg hz]
              exact hno (by simp only [okI]; omega)
          · rw [if_neg h0]
            by_cases hz : f3 < 0
            · rw [if_pos hz]
              exact hno (by simp only [okI]; omega)
            · rw [if_neg hz]
              by_cases hz : f3 ≥ l.length
              · rw [if_pos hz]
                exact hno (by simp only [okI]; omega)
              · rw [if_neg hz]
                exact hgo (by simp only [okI]; omega)
      have hfalse : (¬ (0 ≤ f1 ∧ f1 < R ∧ 0 ≤ f2 ∧ f2 < l.length ∧ (f0 = 0 ∨ f0 = 1))) → okIb R l.length ⟨f0, f1, f2, f3⟩ = false := by
        intro h
        rw [okIb, decide_eq_false (by simp only [okI]; omega)]
      split <;> (repeat' split) <;> first | (refine hj3 _ (fun _ => hfalse (by omega)) (fun h => by cases h)) | (refine hj3 _ (fun h => hfalse (by simp at h; omega)) (fun h => by simp at h; omega))
theorem counter_Valid_ev (R : Int) (l : List S45) (hb : l.length * 32 ≤ 140737488351232) : Ev (fun k => counter_Valid.f k R l) (okC R l) := by
  have hj : ∀ b, (b = true → okC R l = false) → (b = false → l.length ≤ 2000 ∧ 1 ≤ l.length ∧ okC R l = l.all (okIb R l.length)) → Ev (fun k => counter_Valid.j0 k (l.length : Int) b R l) (okC R l) := by
    intro b h1 h2
    rw [Ev_succ]
    simp only [counter_Valid.j0, Ev_ite, Ev_some]
    cases b with
    | true => rw [if_pos rfl, h1 rfl]
    | false =>
      obtain ⟨h3, h4, h5⟩ := h2 rfl
      rw [if_neg (by simp), h5]
      exact cv_loop R l h3 h4 l.length 0 (by omega)
  unfold counter_Valid.f
  simp only [Ev_ite]
  have e : okC R l = (decide (1 ≤ R) && decide (R ≤ 16) && decide (1 ≤ l.length) && decide (l.length ≤ 2000) && l.all (okIb R l.length)) := rfl
  split
  · refine hj _ (fun _ => ?_) (fun h => by cases h)
    rw [e, decide_eq_false (by omega)]; rfl
  · split
    · refine hj _ (fun _ => ?_) (fun h => by cases h)
      rw [e, decide_eq_false (by omega : ¬ R ≤ 16)]; simp
    · split
      · refine hj _ (fun _ => ?_) (fun h => by cases h)
        rw [e, decide_eq_false (by omega : ¬ 1 ≤ l.length)]; simp
      · refine hj _ (fun h => ?_) (fun h => ?_)
        · have h := of_decide_eq_true h
          rw [e, decide_eq_false (by omega : ¬ l.length ≤ 2000)]; simp
        · have h := of_decide_eq_false h
          refine ⟨by omega, by omega, ?_⟩
          rw [e, decide_eq_true (by omega), decide_eq_true (by omega), decide_eq_true (by omega), decide_eq_true (by omega)]
          rfl

theorem rv_loop (R : Int) (l : List S45) (hn : l.length ≤ 2000) : ∀ (d i : Nat), i + d = l.length → Ev (fun k => standstillref06_Valid.l0 k (i : Int) R l) ((l.drop i).all (okIb R l.length)) := by
  intro d
  induction d with
  | zero =>
    intro i hi
    rw [Ev_succ]
    simp only [standstillref06_Valid.l0, Ev_ite, Ev_some, Ev_none]
    rw [if_neg (by omega), List.drop_eq_nil_of_le (by omega)]
    rfl
  | succ d ih =>
    intro i hi
    have hlt : i < l.length := by omega
    have ih := ih (i + 1) (by omega)
    rw [drop_cons l i hlt, List.all_cons, Ev_succ]
    simp only [standstillref06_Valid.l0, Ev_ite, Ev_some, Ev_none]
    rw [if_pos (by omega), if_pos (by omega), rdT l i hlt]
    have hw : wrap64 ((i : Int) + 1) = ((i + 1 : Nat) : Int) := by rw [wrap_id (by omega) (by omega)]; omega
    have hgo : okI R l.length l[i] → Ev (fun k => standstillref06_Valid.l0 k (wrap64 ((i : Int) + 1)) R l) (okIb R l.length l[i] && (l.drop (i + 1)).all (okIb R l.length)) := by
      intro h
      rw [hw, okIb, decide_eq_true h, Bool.true_and]
      exact ih
    have hno : ¬ okI R l.length l[i] → (false = (okIb R l.length l[i] && (l.drop (i + 1)).all (okIb R l.length))) := by
      intro h
      rw [okIb, decide_eq_false h, Bool.false_and]
    generalize hx : l[i] = x at hgo hno ⊢
    obtain ⟨f0, f1, f2, f3⟩ := x
    simp only [okI] at hgo hno
    have hi : ∀ a : Int, standstillref06_index.f R l a = some (decide (0 ≤ a ∧ a < l.length)) := by
      intro a
      unfold standstillref06_index.f
      by_cases h : a ≥ 0
      · rw [if_pos h]; simp [h]
      · rw [if_neg h, decide_eq_false (by omega)]
    simp only [hi, Option.bind_some, Ev_ite, Ev_some]
    repeat' split
    all_goals first | (refine hgo ?_; simp_all; omega) | (refine hno ?_; simp_all; omega) | (exfalso; simp_all; omega) | (refine hgo ?_; simp_all; done) | (refine hno ?_; simp_all; done)

theorem ref_Valid_ev (R : Int) (l : List S45) (hb : l.length * 32 ≤ 140737488351232) : Ev (fun k => standstillref06_Valid.f k R l) (okC R l) := by
  have hj : ∀ b, (b = true → okC R l = false) → (b = false → l.length ≤ 2000 ∧ okC R l = l.all (okIb R l.length)) → Ev (fun k => standstillref06_Valid.j0 k b R l) (okC R l) := by
    intro b h1 h2
    rw [Ev_succ]
    simp only [standstillref06_Valid.j0, Ev_ite, Ev_some]
    cases b with
    | true => rw [if_pos rfl, h1 rfl]
    | false =>
      obtain ⟨h3, h5⟩ := h2 rfl
      rw [if_neg (by simp), h5]
      exact rv_loop R l h3 l.length 0 (by omega)
  unfold standstillref06_Valid.f
  simp only [Ev_ite]
  have e : okC R l = (decide (1 ≤ R) && decide (R ≤ 16) && decide (1 ≤ l.length) && decide (l.length ≤ 2000) && l.all (okIb R l.length)) := rfl
  split
  · refine hj _ (fun _ => ?_) (fun h => by cases h)
    rw [e, decide_eq_false (by omega)]; rfl
  · split
    · refine hj _ (fun _ => ?_) (fun h => by cases h)
      rw [e, decide_eq_false (by omega : ¬ R ≤ 16)]; simp
    · split
      · refine hj _ (fun _ => ?_) (fun h => by cases h)
        rw [e, decide_eq_false (by omega : ¬ 1 ≤ l.length)]; simp
      · refine hj _ (fun h => ?_) (fun h => ?_)
        · have h := of_decide_eq_true h
          rw [e, decide_eq_false (by omega : ¬ l.length ≤ 2000)]; simp
        · have h := of_decide_eq_false h
          refine ⟨by omega, ?_⟩
          rw [e, decide_eq_true (by omega), decide_eq_true (by omega), decide_eq_true (by omega), decide_eq_true (by omega)]
          rfl
theorem okC_true {R : Int} {l : List S45} (h : okC R l = true) : 1 ≤ R ∧ R ≤ 16 ∧ 1 ≤ l.length ∧ l.length ≤ 2000 ∧ ∀ x ∈ l, okI R l.length x := by
  simp only [okC, okIb, Bool.and_eq_true, decide_eq_true_eq, List.all_eq_true] at h
  exact ⟨h.1.1.1.1, h.1.1.1.2, h.1.1.2, h.1.2, h.2⟩
theorem okC_mk {R : Int} {l : List S45} (h : 1 ≤ R ∧ R ≤ 16 ∧ 1 ≤ l.length ∧ l.length ≤ 2000 ∧ ∀ x ∈ l, okI R l.length x) : okC R l = true := by
  simp only [okC, okIb, Bool.and_eq_true, decide_eq_true_eq, List.all_eq_true]
  exact ⟨⟨⟨⟨h.1, h.2.1⟩, h.2.2.1⟩, h.2.2.2.1⟩, h.2.2.2.2⟩


theorem getD_lt {α : Type} (l : List α) {i : Nat} (d : α) (h : i < l.length) : l.getD i d = l[i] := by
  simp [List.getD_eq_getElem?_getD, h]
theorem okC_ne {R : Int} {l : List S45} (h : okC R l = true) : ∀ i : Nat, i < l.length → okI R l.length (l.getD i z45) := by
  intro i hi
  rw [getD_lt _ _ hi]
  exact (okC_true h).2.2.2.2 _ (List.getElem_mem hi)
/-! A state fits. -/
def regOk (x : Int) : Bool := decide (0 ≤ x) && decide (x ≤ 1152921504606846976)
def okF (R : Int) (l : List S45) (p : Int) (r : List Int) : Bool := okC R l && (decide (0 ≤ p) && decide (p < l.length) && decide ((r.length : Int) = R) && r.all regOk)
theorem cf_loop (r : List Int) (hn : r.length ≤ 100000000) : ∀ (d i : Nat), i + d = r.length → Ev (fun k => counter_fits.l0 k r (r.length : Int) (i : Int)) ((r.drop i).all regOk) := by
  intro d
  induction d with
  | zero =>
    intro i hi
    rw [Ev_succ]
    simp only [counter_fits.l0, Ev_ite, Ev_some, Ev_none]
    rw [if_neg (by omega), List.drop_eq_nil_of_le (by omega)]
    rfl
  | succ d ih =>
    intro i hi
    have hlt : i < r.length := by omega
    have ih := ih (i + 1) (by omega)
    rw [drop_cons r i hlt, List.all_cons, Ev_succ]
    simp only [counter_fits.l0, Ev_ite, Ev_some, Ev_none]
    have hw : wrap64 ((i : Int) + 1) = ((i + 1 : Nat) : Int) := by rw [wrap_id (by omega) (by omega)]; omega
    rw [if_pos (by omega), if_pos (by omega), if_pos (by omega), rd_nat r i hlt, hw]
    by_cases h0 : r[i] < 0
    · rw [if_pos h0, regOk, decide_eq_false (by omega)]; rfl
    · rw [if_neg h0]
      by_cases h1 : r[i] > 1152921504606846976
      · rw [if_pos h1, regOk, decide_eq_true (by omega), decide_eq_false (by omega)]; rfl
      · rw [if_neg h1, regOk, decide_eq_true (by omega), decide_eq_true (by omega)]
        exact ih
theorem counter_Fits_ev (R : Int) (l : List S45) (p : Int) (r : List Int) (hb : l.length * 32 ≤ 140737488351232) : Ev (fun k => counter_Fits.f k R l p r) (okF R l p r) := by
  unfold counter_Fits.f
  rw [Ev_bind (counter_Valid_ev R l hb)]
  simp only [Ev_ite, Ev_some]
  by_cases hv : okC R l = true
  · rw [if_pos hv]
    have h16 := (okC_true hv).2.1
    have key : Ev (fun k => counter_fits.f k R l p r) (okF R l p r) := by
      unfold counter_fits.f okF
      rw [hv, Bool.true_and]
      simp only [Ev_ite]
      have hj : ∀ b, (b = true → ¬ (0 ≤ p ∧ p < l.length ∧ (r.length : Int) = R)) → (b = false → 0 ≤ p ∧ p < l.length ∧ (r.length : Int) = R) → Ev (fun k => counter_fits.j0 k b p r) (decide (0 ≤ p) && decide (p < l.length) && decide ((r.length : Int) = R) && r.all regOk) := by
        intro b h1 h2
        rw [Ev_succ]
        simp only [counter_fits.j0, Ev_ite, Ev_some]
        cases b with
        | true =>
          rw [if_pos rfl]
          have := h1 rfl
          by_cases c1 : 0 ≤ p
          · by_cases c2 : p < l.length
            · rw [decide_eq_false (by omega : ¬ ((r.length : Int) = R))]; simp
            · rw [decide_eq_false c2]; simp
          · rw [decide_eq_false c1]; simp
        | false =>
          obtain ⟨c1, c2, c3⟩ := h2 rfl
          rw [if_neg (by simp), decide_eq_true c1, decide_eq_true c2, decide_eq_true c3]
          exact cf_loop r (by omega) r.length 0 (by omega)
      split
      · exact hj _ (fun _ => by omega) (fun h => by cases h)
      · split
        · exact hj _ (fun _ => by omega) (fun h => by cases h)
        · exact hj _ (fun h => by simp at h; omega) (fun h => by simp at h; omega)
    rw [Ev_bind key, Ev_some]
  · rw [if_neg hv]
    simp only [okF, Bool.eq_false_iff.2 hv, Bool.false_and]
theorem okF_true {R : Int} {l : List S45} {p : Int} {r : List Int} (h : okF R l p r = true) : okC R l = true ∧ 0 ≤ p ∧ p < l.length ∧ (r.length : Int) = R ∧ ∀ x ∈ r, 0 ≤ x ∧ x ≤ 1152921504606846976 := by
  simp only [okF, regOk, Bool.and_eq_true, decide_eq_true_eq, List.all_eq_true] at h
  exact ⟨h.1, h.2.1.1.1, h.2.1.1.2, h.2.1.2, h.2.2⟩
theorem okF_mk {R : Int} {l : List S45} {p : Int} {r : List Int} (h : okC R l = true ∧ 0 ≤ p ∧ p < l.length ∧ (r.length : Int) = R ∧ ∀ x ∈ r, 0 ≤ x ∧ x ≤ 1152921504606846976) : okF R l p r = true := by
  simp only [okF, regOk, Bool.and_eq_true, decide_eq_true_eq, List.all_eq_true]
  exact ⟨h.1, ⟨⟨h.2.1, h.2.2.1⟩, h.2.2.2.1⟩, h.2.2.2.2⟩
theorem getD_set {α : Type} (l : List α) (i j : Nat) (v d : α) : (l.set i v).getD j d = if i = j ∧ j < l.length then v else l.getD j d := by
  simp only [List.getD_eq_getElem?_getD, List.getElem?_set]
  by_cases h : i = j
  · subst h
    by_cases h2 : i < l.length
    · simp [h2]
    · simp [h2]
  · simp [h]
theorem mem_getD {l : List Int} {i : Nat} (h : i < l.length) : l.getD i 0 ∈ l := by
  rw [getD_lt _ _ h]; exact List.getElem_mem h
/-- What Run answers. -/
def runOut (l : List S45) (d : Nat) (p : Int) (r : List Int) : Option (Int × List Int × Int × Int) := (crun l d p r 0).bind fun z => if z.2.2.2 = true then some (z.1, z.2.1, z.2.2.1, 0) else some (0, [], 0, 4)

/-! A step of a register machine, in plain words. -/
def cst (l : List S45) (p : Int) (r : List Int) : Option (Int × List Int) :=
  if (rd_T45 l p).f0 = 0 then (if rd r (rd_T45 l p).f1 = 1152921504606846976 then none else some ((rd_T45 l p).f2, r.set (rd_T45 l p).f1.toNat (rd r (rd_T45 l p).f1 + 1)))
  else (if rd r (rd_T45 l p).f1 = 0 then some ((rd_T45 l p).f3, r) else some ((rd_T45 l p).f2, r.set (rd_T45 l p).f1.toNat (rd r (rd_T45 l p).f1 - 1)))
/-- A state that fits a right machine. -/
def okS (R : Int) (l : List S45) (p : Int) (r : List Int) : Prop := 0 ≤ p ∧ p < (l.length : Int) ∧ (r.length : Int) = R ∧ ∀ x ∈ r, 0 ≤ x ∧ x ≤ 1152921504606846976
theorem okS_of {R : Int} {l : List S45} {p : Int} {r : List Int} (h : okF R l p r = true) : okC R l = true ∧ okS R l p r := by
  obtain ⟨a, b⟩ := okF_true h
  exact ⟨a, b⟩
theorem okF_of {R : Int} {l : List S45} {p : Int} {r : List Int} (hC : okC R l = true) (h : okS R l p r) : okF R l p r = true := okF_mk ⟨hC, h⟩
theorem inst_ok {R : Int} {l : List S45} (hC : okC R l = true) {p : Int} (h0 : 0 ≤ p) (h1 : p < (l.length : Int)) : okI R l.length (rd_T45 l p) := by
  obtain ⟨i, rfl⟩ := Int.eq_ofNat_of_zero_le h0
  have hi : i < l.length := by omega
  rw [rdT l i hi]
  exact (okC_true hC).2.2.2.2 _ (List.getElem_mem hi)
theorem rd_ok {r : List Int} (h : ∀ x ∈ r, 0 ≤ x ∧ x ≤ 1152921504606846976) {i : Int} (h0 : 0 ≤ i) (h1 : i < (r.length : Int)) : 0 ≤ rd r i ∧ rd r i ≤ 1152921504606846976 := by
  obtain ⟨j, rfl⟩ := Int.eq_ofNat_of_zero_le h0
  have hj : j < r.length := by omega
  rw [rd_nat r j hj]
  exact h _ (List.getElem_mem hj)
theorem set_ok {r : List Int} (h : ∀ x ∈ r, 0 ≤ x ∧ x ≤ 1152921504606846976) (i : Nat) (v : Int) (h0 : 0 ≤ v ∧ v ≤ 1152921504606846976) : ∀ x ∈ r.set i v, 0 ≤ x ∧ x ≤ 1152921504606846976 := by
  intro x hx
  rcases List.mem_or_eq_of_mem_set hx with h1 | rfl
  · exact h x h1
  · exact h0
theorem cst_ok {R : Int} {l : List S45} (hC : okC R l = true) {p : Int} {r : List Int} (h : okS R l p r) (hh : (rd_T45 l p).f0 ≠ 2) : cst l p r = none ∨ ∃ p' r', cst l p r = some (p', r') ∧ okS R l p' r' := by
  obtain ⟨h0, h1, h2, h3⟩ := h
  unfold cst
  rcases inst_ok hC h0 h1 with a | ⟨a0, a1, a2, a3, a4, a5⟩ | ⟨a0, a1, a2, a3, a4, a5, a6⟩
  · exact absurd a.1 hh
  · rw [if_pos a0]
    have hb := rd_ok h3 a1 (by omega)
    split
    · exact .inl rfl
    · exact .inr ⟨_, _, rfl, a3, a4, by rw [List.length_set]; exact h2, set_ok h3 _ _ (by omega)⟩
  · rw [if_neg (by omega)]
    have hb := rd_ok h3 a1 (by omega)
    split
    · exact .inr ⟨_, _, rfl, a5, a6, h2, h3⟩
    · exact .inr ⟨_, _, rfl, a3, a4, by rw [List.length_set]; exact h2, set_ok h3 _ _ (by omega)⟩
theorem crun_succ {R : Int} {l : List S45} (hC : okC R l = true) {p : Int} {r : List Int} (h : okS R l p r) (d : Nat) (i : Int) : crun l (d + 1) p r i = if (rd_T45 l p).f0 = 2 then some (p, r, i, true) else match cst l p r with | none => some (0, [], 0, false) | some s => crun l d s.1 s.2 (i + 1) := by
  obtain ⟨h0, h1, h2, h3⟩ := h
  simp only [crun]
  rw [if_pos ⟨h0, h1⟩]
  by_cases hh : (rd_T45 l p).f0 = 2
  · rw [if_pos hh, if_pos hh]
  rw [if_neg hh, if_neg hh]
  unfold cst
  rcases inst_ok hC h0 h1 with a | ⟨a0, a1, a2, a3, a4, a5⟩ | ⟨a0, a1, a2, a3, a4, a5, a6⟩
  · exact absurd a.1 hh
  · have hb := rd_ok h3 a1 (by omega)
    rw [if_pos ⟨a1, by omega⟩, if_pos a0, if_pos a0]
    by_cases hm : rd r (rd_T45 l p).f1 = 1152921504606846976
    · rw [if_pos hm, if_pos hm]
    · rw [if_neg hm, if_neg hm, wrap_id (by omega) (by omega)]
  · have hb := rd_ok h3 a1 (by omega)
    have a0' : ¬ (rd_T45 l p).f0 = 0 := by omega
    rw [if_pos ⟨a1, by omega⟩, if_neg a0', if_pos a0, if_neg a0']
    by_cases hm : rd r (rd_T45 l p).f1 = 0
    · rw [if_pos hm, if_pos hm]
    · rw [if_neg hm, if_neg hm, wrap_id (by omega) (by omega)]
theorem crunE_succ {R : Int} {l : List S45} (hC : okC R l = true) (P : Int → Option Bool) {p : Int} {r : List Int} (h : okS R l p r) (d : Nat) (i : Int) : crunE P l (d + 1) p r i = if (rd_T45 l p).f0 = 2 then some (p, r, i, true, false) else match cst l p r with | none => some (0, [], 0, false, false) | some s => (P s.1).bind fun m => if m = true then some (s.1, s.2, i + 1, true, true) else crunE P l d s.1 s.2 (i + 1) := by
  obtain ⟨h0, h1, h2, h3⟩ := h
  simp only [crunE]
  rw [if_pos ⟨h0, h1⟩]
  by_cases hh : (rd_T45 l p).f0 = 2
  · rw [if_pos hh, if_pos hh]
  rw [if_neg hh, if_neg hh]
  unfold cst
  rcases inst_ok hC h0 h1 with a | ⟨a0, a1, a2, a3, a4, a5⟩ | ⟨a0, a1, a2, a3, a4, a5, a6⟩
  · exact absurd a.1 hh
  · have hb := rd_ok h3 a1 (by omega)
    rw [if_pos ⟨a1, by omega⟩, if_pos a0, if_pos a0]
    by_cases hm : rd r (rd_T45 l p).f1 = 1152921504606846976
    · rw [if_pos hm, if_pos hm]
    · rw [if_neg hm, if_neg hm, wrap_id (by omega) (by omega)]
  · have hb := rd_ok h3 a1 (by omega)
    have a0' : ¬ (rd_T45 l p).f0 = 0 := by omega
    rw [if_pos ⟨a1, by omega⟩, if_neg a0', if_pos a0, if_neg a0']
    by_cases hm : rd r (rd_T45 l p).f1 = 0
    · rw [if_pos hm, if_pos hm]
    · rw [if_neg hm, if_neg hm, wrap_id (by omega) (by omega)]
/-- Runs end, and in a state that fits. -/
theorem crun_ok {R : Int} {l : List S45} (hC : okC R l = true) : ∀ (d : Nat) (p : Int) (r : List Int) (i : Int), okS R l p r → (∃ p' r' j, crun l d p r i = some (p', r', j, true) ∧ okS R l p' r' ∧ i ≤ j ∧ j ≤ i + d) ∨ crun l d p r i = some (0, [], 0, false) := by
  intro d
  induction d with
  | zero => intro p r i h; exact .inl ⟨p, r, i, rfl, h, by omega, by omega⟩
  | succ d ih =>
    intro p r i h
    rw [crun_succ hC h]
    by_cases hh : (rd_T45 l p).f0 = 2
    · rw [if_pos hh]; exact .inl ⟨p, r, i, rfl, h, by omega, by omega⟩
    rw [if_neg hh]
    rcases cst_ok hC h hh with e | ⟨p', r', e, ho⟩
    · rw [e]; exact .inr rfl
    · rw [e]
      rcases ih p' r' (i + 1) ho with ⟨p2, r2, j, a, b, c, c2⟩ | a
      · exact .inl ⟨p2, r2, j, a, b, by omega, by push_cast; omega⟩
      · exact .inr a
theorem crun_shift {R : Int} {l : List S45} (hC : okC R l = true) (c : Int) : ∀ (d : Nat) (p : Int) (r : List Int) (i : Int), okS R l p r → crun l d p r (i + c) = (crun l d p r i).map fun z => if z.2.2.2 = true then (z.1, z.2.1, z.2.2.1 + c, true) else z := by
  intro d
  induction d with
  | zero => intro p r i h; simp [crun]
  | succ d ih =>
    intro p r i h
    rw [crun_succ hC h, crun_succ hC h]
    by_cases hh : (rd_T45 l p).f0 = 2
    · rw [if_pos hh, if_pos hh]; simp
    rw [if_neg hh, if_neg hh]
    rcases cst_ok hC h hh with e | ⟨p', r', e, ho⟩
    · rw [e]; rfl
    · rw [e]
      simp only
      rw [show i + c + 1 = i + 1 + c by omega]
      exact ih p' r' (i + 1) ho
theorem crun_add {R : Int} {l : List S45} (hC : okC R l = true) (k : Nat) : ∀ (d : Nat) (p : Int) (r : List Int) (i : Int), okS R l p r → ∀ p' r' j, crun l d p r i = some (p', r', j, true) → crun l (d + k) p r i = crun l k p' r' j := by
  intro d
  induction d with
  | zero =>
    intro p r i h p' r' j e
    simp only [crun, Option.some.injEq, Prod.mk.injEq] at e
    obtain ⟨rfl, rfl, rfl, _⟩ := e
    rw [Nat.zero_add]
  | succ d ih =>
    intro p r i h p' r' j e
    rw [crun_succ hC h] at e
    rw [show d + 1 + k = (d + k) + 1 by omega, crun_succ hC h]
    by_cases hh : (rd_T45 l p).f0 = 2
    · rw [if_pos hh] at e
      simp only [Option.some.injEq, Prod.mk.injEq] at e
      obtain ⟨rfl, rfl, rfl, _⟩ := e
      rw [if_pos hh]
      cases k with
      | zero => rfl
      | succ k => rw [crun_succ hC h, if_pos hh]
    rw [if_neg hh] at e ⊢
    rcases cst_ok hC h hh with e1 | ⟨p1, r1, e1, ho⟩
    · rw [e1] at e; simp at e
    · rw [e1] at e ⊢
      exact ih p1 r1 (i + 1) ho p' r' j e
theorem crun_bad {R : Int} {l : List S45} (hC : okC R l = true) (k : Nat) : ∀ (d : Nat) (p : Int) (r : List Int) (i : Int), okS R l p r → crun l d p r i = some (0, [], 0, false) → crun l (d + k) p r i = some (0, [], 0, false) := by
  intro d
  induction d with
  | zero => intro p r i h e; simp [crun] at e
  | succ d ih =>
    intro p r i h e
    rw [crun_succ hC h] at e
    rw [show d + 1 + k = (d + k) + 1 by omega, crun_succ hC h]
    by_cases hh : (rd_T45 l p).f0 = 2
    · rw [if_pos hh] at e; simp at e
    rw [if_neg hh] at e ⊢
    rcases cst_ok hC h hh with e1 | ⟨p1, r1, e1, ho⟩
    · rw [e1]
    · rw [e1] at e ⊢
      exact ih p1 r1 (i + 1) ho e
/-- A run until a point: t steps, no point before. -/
inductive Un (l : List S45) (pts : List Int) : Nat → Int → List Int → Int → List Int → Prop
  | last {p p' : Int} {r r' : List Int} : (rd_T45 l p).f0 ≠ 2 → cst l p r = some (p', r') → p' ∈ pts → Un l pts 1 p r p' r'
  | step {t : Nat} {p p1 p' : Int} {r r1 r' : List Int} : (rd_T45 l p).f0 ≠ 2 → cst l p r = some (p1, r1) → p1 ∉ pts → Un l pts t p1 r1 p' r' → Un l pts (t + 1) p r p' r'
/-- What Until's run comes to, step by step, for the points themselves. -/
theorem crunE_un {R : Int} {l : List S45} (hC : okC R l = true) (pts : List Int) : ∀ (d : Nat) (p : Int) (r : List Int) (i : Int), okS R l p r →
    (∃ t : Nat, ∃ p' r', crunE (fun a => some (decide (a ∈ pts))) l d p r i = some (p', r', i + (t : Int), true, true) ∧ t ≤ d ∧ 1 ≤ t ∧ Un l pts t p r p' r' ∧ okS R l p' r') ∨
    (∃ p' r' j, crunE (fun a => some (decide (a ∈ pts))) l d p r i = some (p', r', j, true, false)) ∨
    (crunE (fun a => some (decide (a ∈ pts))) l d p r i = some (0, [], 0, false, false) ∧ crun l d p r i = some (0, [], 0, false)) := by
  intro d
  induction d with
  | zero => intro p r i h; exact .inr (.inl ⟨p, r, i, rfl⟩)
  | succ d ih =>
    intro p r i h
    rw [crunE_succ hC _ h, crun_succ hC h]
    by_cases hh : (rd_T45 l p).f0 = 2
    · rw [if_pos hh]; exact .inr (.inl ⟨p, r, i, rfl⟩)
    rw [if_neg hh, if_neg hh]
    rcases cst_ok hC h hh with e1 | ⟨p1, r1, e1, ho⟩
    · rw [e1]; exact .inr (.inr ⟨rfl, rfl⟩)
    · rw [e1]
      simp only [Option.bind_some]
      by_cases hp : p1 ∈ pts
      · rw [decide_eq_true hp, if_pos rfl]
        exact .inl ⟨1, p1, r1, rfl, by omega, by omega, .last hh e1 hp, ho⟩
      · rw [decide_eq_false hp, if_neg (by decide)]
        rcases ih p1 r1 (i + 1) ho with ⟨t, p', r', a, b, c, u, o⟩ | a | a
        · exact .inl ⟨t + 1, p', r', by rw [a]; congr 3; congr 1; push_cast; omega, by omega, by omega, .step hh e1 hp u, o⟩
        · exact .inr (.inl a)
        · exact .inr (.inr a)
theorem un_run {R : Int} {l : List S45} (hC : okC R l = true) {pts : List Int} {t : Nat} {p p' : Int} {r r' : List Int} (u : Un l pts t p r p' r') : okS R l p r → ∀ i : Int, crun l t p r i = some (p', r', i + (t : Int), true) := by
  induction u with
  | last hh e hp =>
    intro h i
    rw [crun_succ hC h, if_neg hh, e]
    rfl
  | step hh e hp u ih =>
    intro h i
    rw [crun_succ hC h, if_neg hh, e]
    simp only
    rcases cst_ok hC h hh with e1 | ⟨p1, r1, e1, ho⟩
    · rw [e1] at e; cases e
    · rw [e1] at e
      simp only [Option.some.injEq, Prod.mk.injEq] at e
      obtain ⟨rfl, rfl⟩ := e
      rw [ih ho]
      congr 3
      congr 1
      push_cast
      omega
theorem un_mem {l : List S45} {pts : List Int} {t : Nat} {p p' : Int} {r r' : List Int} (u : Un l pts t p r p' r') : p' ∈ pts := by
  induction u with
  | last _ _ hp => exact hp
  | step _ _ _ _ ih => exact ih

/-! Points, rising: the binary search. -/
def rising (pts : List Int) : Prop := ∀ i j : Nat, i < j → j < pts.length → pts.getD i 0 < pts.getD j 0
theorem pgo_rising {cl : Int} {pts : List Int} (h : pgo cl pts pts.length 0 = true) : rising pts := by
  have H : ∀ (d i : Nat), i + d = pts.length → pgo cl pts d (i : Int) = true → (∀ a b : Nat, a < b → b < i → pts.getD a 0 < pts.getD b 0) → ∀ a b : Nat, a < b → b < pts.length → pts.getD a 0 < pts.getD b 0 := by
    intro d
    induction d with
    | zero => intro i hi _ hp a b hab hb; exact hp a b hab (by omega)
    | succ d ih =>
      intro i hi hg hp
      have hlt : i < pts.length := by omega
      simp only [pgo] at hg
      split at hg
      · cases hg
      split at hg
      · cases hg
      by_cases c : (0 : Int) < (i : Int)
      · rw [if_pos c] at hg
        split at hg
        · cases hg
        rename_i hle
        rw [rd_nat pts i hlt, show (i : Int) - 1 = ((i - 1 : Nat) : Int) by omega, rd_nat pts (i - 1) (by omega)] at hle
        refine ih (i + 1) (by omega) (by simpa using hg) (fun a b hab hb => ?_)
        by_cases e : b = i
        · subst e
          have e1 : pts.getD (b - 1) 0 = pts[b - 1]'(by omega) := getD_lt pts 0 (by omega)
          have e2 : pts.getD b 0 = pts[b] := getD_lt pts 0 hlt
          have e3 : pts.getD (b - 1) 0 < pts.getD b 0 := by rw [e1, e2]; omega
          by_cases e4 : a = b - 1
          · rw [e4]; exact e3
          · exact Int.lt_trans (hp a (b - 1) (by omega) (by omega)) e3
        · exact hp a b hab (by omega)
      · rw [if_neg c] at hg
        exact ih (i + 1) (by omega) (by simpa using hg) (fun a b hab hb => by omega)
  exact H pts.length 0 (by omega) h (fun a b _ hb => by omega)
theorem less_eq (a b : Int) : cmp_Less_int.f a b = some (decide (a < b)) := by
  simp [cmp_Less_int.f, cmp_isNaN_int.f]
theorem half (a b : Nat) (ha : a ≤ 1000000000) (hb : b ≤ 1000000000) : wrap64 ((IntKind.u64.wrap (wrap64 ((a : Int) + (b : Int)))) / 2) = (((a + b) / 2 : Nat) : Int) := by
  have e1 : wrap64 ((a : Int) + (b : Int)) = ((a + b : Nat) : Int) := by rw [wrap_id (by omega) (by omega)]; push_cast; rfl
  rw [e1]
  have e2 : IntKind.u64.wrap ((a + b : Nat) : Int) = ((a + b : Nat) : Int) := by
    simp [IntKind.wrap, IntKind.signed, IntKind.bits]
    omega
  rw [e2, wrap_id (by omega) (by omega)]
  omega
theorem bs_l0 (pts : List Int) (x : Int) (hr : rising pts) (hl : pts.length ≤ 1000000000) : ∀ (d a b : Nat), b - a ≤ d → a ≤ b → b ≤ pts.length → (∀ i : Nat, i < a → pts.getD i 0 < x) → (∀ i : Nat, b ≤ i → i < pts.length → ¬ pts.getD i 0 < x) →
    ∃ i, Ev (fun k => slices_BinarySearch_int_int.l0 k pts x (pts.length : Int) (a : Int) (b : Int)) (i, decide (x ∈ pts)) := by
  intro d
  induction d with
  | zero =>
    intro a b hd hab hb h1 h2
    have : a = b := by omega
    subst this
    refine ⟨a, ?_⟩
    rw [Ev_succ]
    simp only [slices_BinarySearch_int_int.l0, Ev_ite, Ev_none, Ev_some]
    rw [if_neg (by omega)]
    by_cases c : a < pts.length
    · rw [if_pos (by omega), if_pos (by omega), if_pos (by omega), rd_nat pts a c]
      have e : pts.getD a 0 = pts[a] := getD_lt pts 0 c
      by_cases c1 : pts[a] = x
      · rw [if_pos c1, decide_eq_true (by rw [← c1]; exact List.getElem_mem c)]
      · rw [if_neg c1]
        have hn : x ∉ pts := by
          intro hx
          obtain ⟨j, hj, rfl⟩ := List.mem_iff_getElem.1 hx
          have ej : pts.getD j 0 = pts[j] := getD_lt pts 0 hj
          rcases Nat.lt_trichotomy j a with h | h | h
          · have := h1 j h; rw [ej] at this; omega
          · subst h; exact c1 rfl
          · have h3 := hr a j h hj
            have h4 := h2 a (Nat.le_refl _) c
            rw [ej] at h3
            omega
        rw [decide_eq_false hn]
        simp [slices_isNaN_int.f, Ev_some]
    · rw [if_neg (by omega)]
      have hn : x ∉ pts := by
        intro hx
        obtain ⟨j, hj, rfl⟩ := List.mem_iff_getElem.1 hx
        have ej : pts.getD j 0 = pts[j] := getD_lt pts 0 hj
        have := h1 j (by omega)
        rw [ej] at this
        omega
      rw [decide_eq_false hn]
  | succ d ih =>
    intro a b hd hab hb h1 h2
    by_cases c : a = b
    · exact ih a b (by omega) hab hb h1 h2
    have hm : (a + b) / 2 < pts.length := by omega
    have e : pts.getD ((a + b) / 2) 0 = pts[(a + b) / 2] := getD_lt pts 0 hm
    by_cases c1 : pts[(a + b) / 2] < x
    · obtain ⟨i, hi⟩ := ih ((a + b) / 2 + 1) b (by omega) (by omega) hb (fun i hi => by
        by_cases c2 : i = (a + b) / 2
        · rw [c2, e]; exact c1
        · have := hr i ((a + b) / 2) (by omega) hm
          rw [e] at this
          omega) h2
      refine ⟨i, ?_⟩
      rw [Ev_succ]
      simp only [slices_BinarySearch_int_int.l0, Ev_ite, Ev_none, half a b (by omega) (by omega)]
      rw [if_pos (by omega), if_pos (by omega), if_pos (by omega), rd_nat pts _ hm, less_eq]
      simp only [Option.bind_some, decide_eq_true c1, if_true]
      rw [wrap_id (by omega) (by omega)]
      exact hi
    · obtain ⟨i, hi⟩ := ih a ((a + b) / 2) (by omega) (by omega) (by omega) h1 (fun i hi hl2 => by
        by_cases c2 : i = (a + b) / 2
        · rw [c2, e]; exact c1
        · have := hr ((a + b) / 2) i (by omega) hl2
          rw [e] at this
          omega)
      refine ⟨i, ?_⟩
      rw [Ev_succ]
      simp only [slices_BinarySearch_int_int.l0, Ev_ite, Ev_none, half a b (by omega) (by omega)]
      rw [if_pos (by omega), if_pos (by omega), if_pos (by omega), rd_nat pts _ hm, less_eq]
      simp only [Option.bind_some, decide_eq_false c1, Bool.false_eq_true, if_false]
      exact hi
theorem bs_ev (pts : List Int) (x : Int) (hr : rising pts) (hl : pts.length ≤ 1000000000) : Ev (fun k => (slices_BinarySearch_int_int.f k pts x).map (·.2)) (decide (x ∈ pts)) := by
  obtain ⟨i, K, h⟩ := bs_l0 pts x hr hl pts.length 0 pts.length (by omega) (by omega) (by omega) (fun i hi => by omega) (fun i h1 h2 => by omega)
  refine ⟨K, fun k hk => ?_⟩
  have e := h k hk
  simp only at e
  show (slices_BinarySearch_int_int.l0 k pts x (pts.length : Int) ((0 : Nat) : Int) (pts.length : Int)).map (·.2) = _
  rw [e]
  rfl
theorem crunE_ev {R : Int} {l : List S45} (hC : okC R l = true) (P : Nat → Int → Option Bool) (Q : Int → Bool) (hP : ∀ a, Ev (fun k => P k a) (Q a)) : ∀ (d : Nat) (p : Int) (r : List Int) (i : Int) (z : Int × List Int × Int × Bool × Bool), okS R l p r → crunE (fun a => some (Q a)) l d p r i = some z → Ev (fun k => crunE (P k) l d p r i) z := by
  intro d
  induction d with
  | zero =>
    intro p r i z h e
    simp only [crunE] at e ⊢
    injection e with e
    subst e
    exact Ev.now _
  | succ d ih =>
    intro p r i z h e
    rw [crunE_succ hC _ h] at e
    have hk : (fun k => crunE (P k) l (d + 1) p r i) = fun k => if (rd_T45 l p).f0 = 2 then some (p, r, i, true, false) else match cst l p r with | none => some (0, [], 0, false, false) | some s => (P k s.1).bind fun m => if m = true then some (s.1, s.2, i + 1, true, true) else crunE (P k) l d s.1 s.2 (i + 1) := by
      funext k
      exact crunE_succ hC _ h d i
    rw [hk]
    by_cases hh : (rd_T45 l p).f0 = 2
    · rw [if_pos hh] at e
      injection e with e
      subst e
      simp only [if_pos hh]
      exact Ev.now _
    rw [if_neg hh] at e
    simp only [if_neg hh]
    rcases cst_ok hC h hh with e1 | ⟨p1, r1, e1, ho⟩
    · rw [e1] at e ⊢
      injection e with e
      subst e
      exact Ev.now _
    · rw [e1] at e ⊢
      simp only [Option.bind_some] at e ⊢
      rw [Ev_bind (hP p1)]
      cases hq : Q p1 with
      | true =>
        rw [hq, if_pos rfl] at e
        injection e with e
        subst e
        simp only [if_true]
        exact Ev.now _
      | false =>
        rw [hq, if_neg (by decide)] at e
        simp only [Bool.false_eq_true, if_false]
        exact ih p1 r1 (i + 1) z ho e

/-! Walks of the machine with two registers. -/
inductive Pt (l : List S45) (pts : List Int) : Nat → Int → List Int → Int → List Int → Prop
  | refl (p : Int) (r : List Int) : Pt l pts 0 p r p r
  | step {t : Nat} {p p1 p' : Int} {r r1 r' : List Int} : (rd_T45 l p).f0 ≠ 2 → cst l p r = some (p1, r1) → p1 ∉ pts → Pt l pts t p1 r1 p' r' → Pt l pts (t + 1) p r p' r'
theorem Pt.trans {l : List S45} {pts : List Int} {t u : Nat} {p p1 p' : Int} {r r1 r' : List Int} (h : Pt l pts t p r p1 r1) (k : Pt l pts u p1 r1 p' r') : Pt l pts (t + u) p r p' r' := by
  induction h with
  | refl => rw [Nat.zero_add]; exact k
  | step a b c _ ih =>
    rw [show ∀ a b : Nat, a + 1 + b = a + b + 1 from fun a b => by omega]
    exact .step a b c (ih k)
theorem Pt.un {l : List S45} {pts : List Int} {t u : Nat} {p p1 p' : Int} {r r1 r' : List Int} (h : Pt l pts t p r p1 r1) (k : Un l pts u p1 r1 p' r') : Un l pts (t + u) p r p' r' := by
  induction h with
  | refl => rw [Nat.zero_add]; exact k
  | step a b c _ ih =>
    rw [show ∀ a b : Nat, a + 1 + b = a + b + 1 from fun a b => by omega]
    exact .step a b c (ih k)
theorem Pt.one {l : List S45} {pts : List Int} {p p1 : Int} {r r1 : List Int} (a : (rd_T45 l p).f0 ≠ 2) (b : cst l p r = some (p1, r1)) (c : p1 ∉ pts) : Pt l pts 1 p r p1 r1 := .step a b c (.refl _ _)
theorem Pt.cast {l : List S45} {pts : List Int} {t u : Nat} {p p' q q' : Int} {r r' s s' : List Int} (h : Pt l pts t p r p' r') (e1 : t = u) (e2 : p = q) (e3 : r = s) (e4 : p' = q') (e5 : r' = s') : Pt l pts u q s q' s' := by
  subst e1 e2 e3 e4 e5
  exact h
/-- Register f holds x, the other one y. -/
def F2 (f x y : Int) : List Int := if f = 0 then [x, y] else [y, x]
theorem c_inc {l : List S45} {p f g t u x y : Int} (h : rd_T45 l p = ⟨0, g, t, u⟩) (hf : f = 0 ∧ g = 1 ∨ f = 1 ∧ g = 0) (hy : y < 1152921504606846976) : (rd_T45 l p).f0 ≠ 2 ∧ cst l p (F2 f x y) = some (t, F2 f x (y + 1)) := by
  rw [h]
  refine ⟨by show (0 : Int) ≠ 2; decide, ?_⟩
  unfold cst
  rw [h]
  rcases hf with ⟨rfl, rfl⟩ | ⟨rfl, rfl⟩
  · simp only [F2, if_true, if_pos]
    rw [if_neg (show ¬ rd [x, y] 1 = 1152921504606846976 from fun e => by have e' : y = 1152921504606846976 := e; omega)]
    rfl
  · simp only [F2, if_neg (show ¬ (1 : Int) = 0 by decide), if_true]
    rw [if_neg (show ¬ rd [y, x] 0 = 1152921504606846976 from fun e => by have e' : y = 1152921504606846976 := e; omega)]
    rfl
theorem c_dec {l : List S45} {p f t u x y : Int} (h : rd_T45 l p = ⟨1, f, t, u⟩) (hf : f = 0 ∨ f = 1) (hx : x ≠ 0) : (rd_T45 l p).f0 ≠ 2 ∧ cst l p (F2 f x y) = some (t, F2 f (x - 1) y) := by
  rw [h]
  refine ⟨by show (1 : Int) ≠ 2; decide, ?_⟩
  unfold cst
  rw [h]
  rcases hf with rfl | rfl
  · simp only [F2, if_true, if_neg (show ¬ (1 : Int) = 0 by decide)]
    rw [if_neg (show ¬ rd [x, y] 0 = 0 from hx)]
    rfl
  · simp only [F2, if_neg (show ¬ (1 : Int) = 0 by decide)]
    rw [if_neg (show ¬ rd [y, x] 1 = 0 from hx)]
    rfl
theorem c_zero {l : List S45} {p f t u y : Int} (h : rd_T45 l p = ⟨1, f, t, u⟩) (hf : f = 0 ∨ f = 1) : (rd_T45 l p).f0 ≠ 2 ∧ cst l p (F2 f 0 y) = some (u, F2 f 0 y) := by
  rw [h]
  refine ⟨by show (1 : Int) ≠ 2; decide, ?_⟩
  unfold cst
  rw [h]
  rcases hf with rfl | rfl
  · simp only [F2, if_true, if_neg (show ¬ (1 : Int) = 0 by decide)]
    rw [if_pos (show rd [0, y] 0 = 0 from rfl)]
  · simp only [F2, if_neg (show ¬ (1 : Int) = 0 by decide)]
    rw [if_pos (show rd [y, 0] 1 = 0 from rfl)]
/-- A loop that empties f into g, m times. -/
structure MAt (l : List S45) (b f g : Int) (m : Nat) (t : Int) : Prop where
  d : rd_T45 l b = ⟨1, f, b + 1, t⟩
  i : ∀ i : Nat, i < m → rd_T45 l (b + 1 + i) = ⟨0, g, if (i : Int) = (m : Int) - 1 then b else b + 2 + i, 0⟩
theorem many_in {l : List S45} {pts : List Int} {b f g t : Int} {m : Nat} (h : MAt l b f g m t) (hf : f = 0 ∧ g = 1 ∨ f = 1 ∧ g = 0) (hn : ∀ p, b ≤ p → p ≤ b + m → p ∉ pts) (x : Int) : ∀ (d i : Nat) (y : Int), i + (d + 1) = m → y + (d + 1 : Nat) ≤ 1152921504606846976 → Pt l pts (d + 1) (b + 1 + i) (F2 f x y) b (F2 f x (y + (d + 1 : Nat))) := by
  intro d
  induction d with
  | zero =>
    intro i y hi hb
    have hx := h.i i (by omega)
    rw [if_pos (by omega)] at hx
    obtain ⟨a, c⟩ := c_inc (x := x) (y := y) hx hf (by omega)
    exact Pt.one a c (hn _ (Int.le_refl _) (by omega))
  | succ d ih =>
    intro i y hi hb
    have hx := h.i i (by omega)
    rw [if_neg (by omega)] at hx
    obtain ⟨a, c⟩ := c_inc (x := x) (y := y) hx hf (by omega)
    have := ih (i + 1) (y + 1) (by omega) (by omega)
    refine .step a c (hn _ (by omega) (by omega)) (this.cast rfl (by push_cast; omega) rfl rfl ?_)
    congr 1
    push_cast
    omega
theorem many_loop {l : List S45} {pts : List Int} {b f g t : Int} {m : Nat} (h : MAt l b f g m t) (hm : 1 ≤ m) (hf : f = 0 ∧ g = 1 ∨ f = 1 ∧ g = 0) (hn : ∀ p, b ≤ p → p ≤ b + m → p ∉ pts) : ∀ (c : Nat) (y : Int), y + (c * m : Nat) ≤ 1152921504606846976 → Pt l pts (c * (m + 1)) b (F2 f c y) b (F2 f 0 (y + (c * m : Nat))) := by
  intro c
  induction c with
  | zero =>
    intro y hb
    exact (Pt.refl b (F2 f 0 y)).cast (by omega) rfl rfl rfl (by simp)
  | succ c ih =>
    intro y hb
    have e : (c + 1) * m = c * m + m := by rw [Nat.add_mul, Nat.one_mul]
    have e2 : (c + 1) * (m + 1) = 1 + (m + c * (m + 1)) := by rw [Nat.add_mul, Nat.one_mul]; omega
    rw [e] at hb ⊢
    obtain ⟨a, k⟩ := c_dec (x := ((c + 1 : Nat) : Int)) (y := y) h.d (by omega) (by omega)
    obtain ⟨n, rfl⟩ : ∃ n, m = n + 1 := ⟨m - 1, by omega⟩
    have h1 := many_in h hf hn (((c + 1 : Nat) : Int) - 1) n 0 y (by omega) (by omega)
    have h2 := ih (y + (n + 1 : Nat)) (by omega)
    rw [show ((c + 1 : Nat) : Int) - 1 = (c : Int) by omega] at h1 k
    rw [e2]
    refine (Pt.one a k (hn _ (by omega) (by omega))).trans (Pt.trans (h1.cast rfl (by simp) rfl rfl rfl) (h2.cast rfl rfl rfl rfl ?_))
    congr 1
    omega
/-- The code of an increment, at a. -/
structure IncAt (l : List S45) (a : Int) (q : Nat) (N : Int) : Prop where
  b0 : rd_T45 l a = ⟨0, 1, a + 1, 0⟩
  b1 : rd_T45 l (a + 1) = ⟨1, 1, a + 2, a + 2⟩
  m1 : MAt l (a + 2) 0 1 q (a + 3 + q)
  m2 : MAt l (a + 3 + q) 1 0 1 N
theorem begin_run {l : List S45} {pts : List Int} {a x : Int} (b0 : rd_T45 l a = ⟨0, 1, a + 1, 0⟩) (b1 : rd_T45 l (a + 1) = ⟨1, 1, a + 2, a + 2⟩) (h1 : a + 1 ∉ pts) (h2 : a + 2 ∉ pts) : Pt l pts 2 a [x, 0] (a + 2) [x, 0] := by
  obtain ⟨p, q⟩ := c_inc (f := 0) (x := x) (y := 0) b0 (.inl ⟨rfl, rfl⟩) (by decide)
  obtain ⟨u, v⟩ := c_dec (f := 1) (x := 0 + 1) (y := x) b1 (.inr rfl) (by decide)
  exact .step p q h1 (.step u v h2 (.refl _ _))
theorem inc_run {l : List S45} {pts : List Int} {a N : Int} {q : Nat} (h : IncAt l a q N) (hq : 1 ≤ q) (hn : ∀ p, a < p → p ≤ a + 4 + q → p ∉ pts) (hN : N ∈ pts) (c : Nat) (hb : c * q ≤ 1000000) : Un l pts (4 + c * (q + 1) + 2 * (c * q)) a [(c : Int), 0] N [((c * q : Nat) : Int), 0] := by
  have s1 := begin_run (pts := pts) (x := (c : Int)) h.b0 h.b1 (hn _ (by omega) (by omega)) (hn _ (by omega) (by omega))
  have s2 := many_loop h.m1 hq (.inl ⟨rfl, rfl⟩) (fun p h0 h1 => hn p (by omega) (by omega)) c 0 (by omega)
  obtain ⟨z1, z2⟩ := c_zero (y := 0 + ((c * q : Nat) : Int)) h.m1.d (.inl rfl)
  have s3 : Pt l pts 1 (a + 2) (F2 0 0 (0 + ((c * q : Nat) : Int))) (a + 3 + q) (F2 0 0 (0 + ((c * q : Nat) : Int))) := Pt.one z1 z2 (hn _ (by omega) (by omega))
  have s4 := many_loop h.m2 (Nat.le_refl 1) (.inr ⟨rfl, rfl⟩) (fun p h0 h1 => hn p (by omega) (by omega)) (c * q) 0 (by omega)
  obtain ⟨y1, y2⟩ := c_zero (y := 0 + ((c * q * 1 : Nat) : Int)) h.m2.d (.inr rfl)
  have s5 : Un l pts 1 (a + 3 + q) (F2 1 0 (0 + ((c * q * 1 : Nat) : Int))) N (F2 1 0 (0 + ((c * q * 1 : Nat) : Int))) := .last y1 y2 hN
  have e0 : F2 0 (c : Int) 0 = [(c : Int), 0] := rfl
  have e1 : F2 0 0 (0 + ((c * q : Nat) : Int)) = F2 1 ((c * q : Nat) : Int) 0 := by simp [F2]
  have e2 : F2 1 0 (0 + ((c * q * 1 : Nat) : Int)) = [((c * q : Nat) : Int), 0] := by simp [F2]
  rw [e0] at s2
  rw [e1] at s2 s3
  rw [e2] at s4 s5
  have r := ((s1.trans s2).trans s3).trans s4
  have r2 := r.un s5
  rw [show 2 + c * (q + 1) + 1 + c * q * (1 + 1) + 1 = 4 + c * (q + 1) + 2 * (c * q) by omega] at r2
  exact r2
/-- The code of a decrement, at a. -/
structure DecAt (l : List S45) (a : Int) (q : Nat) (N Z : Int) : Prop where
  b0 : rd_T45 l a = ⟨0, 1, a + 1, 0⟩
  b1 : rd_T45 l (a + 1) = ⟨1, 1, a + 2, a + 2⟩
  d : ∀ i : Nat, i < q → rd_T45 l (a + 2 + i) = ⟨1, 0, a + 2 + i + 1, if (i : Int) = 0 then a + 3 + q else a + 5 + q + q - 1 - i⟩
  u : rd_T45 l (a + 2 + q) = ⟨0, 1, a + 2, 0⟩
  m1 : MAt l (a + 3 + q) 1 0 1 N
  w : ∀ i : Nat, i + 1 < q → rd_T45 l (a + 5 + q + i) = ⟨0, 0, a + 5 + q + i + 1, 0⟩
  m2 : MAt l (a + 4 + q + q) 1 0 q Z
theorem dec_down {l : List S45} {pts : List Int} {a N Z : Int} {q : Nat} (h : DecAt l a q N Z) (hn : ∀ p, a < p → p ≤ a + 4 + q + q + q → p ∉ pts) (y : Int) : ∀ (d i : Nat) (x : Int), i + d ≤ q → d ≤ x → Pt l pts d (a + 2 + i) [x, y] (a + 2 + i + d) [x - d, y] := by
  intro d
  induction d with
  | zero => intro i x hi hx; exact (Pt.refl _ _).cast rfl rfl rfl (by simp) (by simp)
  | succ d ih =>
    intro i x hi hx
    obtain ⟨p, k⟩ := c_dec (x := x) (y := y) (h.d i (by omega)) (.inl rfl) (by omega)
    have := ih (i + 1) (x - 1) (by omega) (by omega)
    refine .step p k (hn _ (by omega) (by omega)) (this.cast rfl (by push_cast; omega) rfl (by push_cast; omega) ?_)
    rw [show x - 1 - (d : Int) = x - ((d + 1 : Nat) : Int) by omega]
theorem dec_rounds {l : List S45} {pts : List Int} {a N Z : Int} {q : Nat} (h : DecAt l a q N Z) (hq : 1 ≤ q) (hn : ∀ p, a < p → p ≤ a + 4 + q + q + q → p ∉ pts) : ∀ (c : Nat) (s y : Int), 0 ≤ s → 0 ≤ y → y + c ≤ 1000000 → Pt l pts (c * (q + 1)) (a + 2) [((c * q : Nat) : Int) + s, y] (a + 2) [s, y + c] := by
  intro c
  induction c with
  | zero => intro s y hs hy hb; exact (Pt.refl (a + 2) [s, y]).cast (by omega) rfl (by simp) rfl (by simp)
  | succ c ih =>
    intro s y hs hy hb
    have e : (c + 1) * q = c * q + q := by rw [Nat.add_mul, Nat.one_mul]
    have e2 : (c + 1) * (q + 1) = q + 1 + c * (q + 1) := by rw [Nat.add_mul, Nat.one_mul]; omega
    rw [e, e2]
    have h1 := dec_down h hn y q 0 (((c * q + q : Nat) : Int) + s) (by omega) (by omega)
    obtain ⟨p, k⟩ := c_inc (f := 0) (x := ((c * q : Nat) : Int) + s) (y := y) h.u (.inl ⟨rfl, rfl⟩) (by omega)
    have h2 : Pt l pts 1 (a + 2 + q) [((c * q : Nat) : Int) + s, y] (a + 2) [((c * q : Nat) : Int) + s, y + 1] := Pt.one p k (hn _ (by omega) (by omega))
    have h3 := ih s (y + 1) hs (by omega) (by omega)
    refine Pt.trans (Pt.trans (h1.cast rfl (by simp) rfl (by simp) ?_) h2) (h3.cast rfl rfl rfl rfl ?_)
    · rw [show ((c * q + q : Nat) : Int) + s - q = ((c * q : Nat) : Int) + s by omega]
    · rw [show y + 1 + (c : Int) = y + ((c + 1 : Nat) : Int) by omega]
/-- Where the number is divisible. -/
theorem dec_run {l : List S45} {pts : List Int} {a N Z : Int} {q : Nat} (h : DecAt l a q N Z) (hq : 1 ≤ q) (hn : ∀ p, a < p → p ≤ a + 4 + q + q + q → p ∉ pts) (hN : N ∈ pts) (c : Nat) (hb : c ≤ 100000) : Un l pts (4 + c * (q + 1) + 2 * c) a [((c * q : Nat) : Int), 0] N [(c : Int), 0] := by
  have s1 := begin_run (pts := pts) (x := ((c * q : Nat) : Int)) h.b0 h.b1 (hn _ (by omega) (by omega)) (hn _ (by omega) (by omega))
  have s2 := dec_rounds h hq hn c 0 0 (by omega) (by omega) (by omega)
  have d0 := h.d 0 (by omega)
  rw [if_pos (show ((0 : Nat) : Int) = 0 from rfl)] at d0
  obtain ⟨z1, z2⟩ := c_zero (f := 0) (y := 0 + (c : Int)) (p := a + 2) (by simpa using d0) (.inl rfl)
  have s3 : Pt l pts 1 (a + 2) [0, 0 + (c : Int)] (a + 3 + q) [0, 0 + (c : Int)] := Pt.one z1 z2 (hn _ (by omega) (by omega))
  have s4 := many_loop h.m1 (Nat.le_refl 1) (.inr ⟨rfl, rfl⟩) (fun p h0 h1 => hn p (by omega) (by omega)) c 0 (by omega)
  obtain ⟨y1, y2⟩ := c_zero (y := 0 + ((c * 1 : Nat) : Int)) h.m1.d (.inr rfl)
  have s5 : Un l pts 1 (a + 3 + q) (F2 1 0 (0 + ((c * 1 : Nat) : Int))) N (F2 1 0 (0 + ((c * 1 : Nat) : Int))) := .last y1 y2 hN
  have e1 : ([0, 0 + (c : Int)] : List Int) = F2 1 (c : Int) 0 := by simp [F2]
  have e2 : F2 1 0 (0 + ((c * 1 : Nat) : Int)) = [(c : Int), 0] := by simp [F2]
  rw [e1] at s3
  rw [e2] at s4 s5
  rw [Int.add_zero] at s2
  rw [e1] at s2
  have r := ((s1.trans s2).trans s3).trans s4
  have r2 := r.un s5
  rw [show 2 + c * (q + 1) + 1 + c * (1 + 1) + 1 = 4 + c * (q + 1) + 2 * c by omega] at r2
  exact r2
theorem ups_run {l : List S45} {pts : List Int} {a N Z : Int} {q : Nat} (h : DecAt l a q N Z) (hn : ∀ p, a < p → p ≤ a + 4 + q + q + q → p ∉ pts) (y : Int) : ∀ (d i : Nat) (x : Int), i + d + 1 = q → x + d ≤ 1000000 → Pt l pts d (a + 5 + q + i) [x, y] (a + 4 + q + q) [x + d, y] := by
  intro d
  induction d with
  | zero => intro i x hi hx; exact (Pt.refl _ _).cast rfl rfl rfl (by omega) (by simp)
  | succ d ih =>
    intro i x hi hx
    obtain ⟨p, k⟩ := c_inc (f := 1) (x := y) (y := x) (h.w i (by omega)) (.inr ⟨rfl, rfl⟩) (by omega)
    have := ih (i + 1) (x + 1) (by omega) (by omega)
    refine .step p k (hn _ (by omega) (by omega)) (this.cast rfl (by push_cast; omega) rfl rfl ?_)
    rw [show x + 1 + (d : Int) = x + ((d + 1 : Nat) : Int) by omega]
/-- Where it is not. -/
theorem dec_not {l : List S45} {pts : List Int} {a N Z : Int} {q : Nat} (h : DecAt l a q N Z) (hq : 1 ≤ q) (hn : ∀ p, a < p → p ≤ a + 4 + q + q + q → p ∉ pts) (hZ : Z ∈ pts) (c s : Nat) (hs : 0 < s) (hsq : s < q) (hb : c ≤ 100000) (hb2 : c * q ≤ 100000) (hq2 : q ≤ 1000) : Un l pts (4 + 2 * (c * (q + 1)) + 2 * s) a [((c * q + s : Nat) : Int), 0] Z [((c * q + s : Nat) : Int), 0] := by
  have s1 := begin_run (pts := pts) (x := ((c * q + s : Nat) : Int)) h.b0 h.b1 (hn _ (by omega) (by omega)) (hn _ (by omega) (by omega))
  have s2 := dec_rounds h hq hn c s 0 (by omega) (by omega) (by omega)
  have s3 := dec_down h hn (0 + (c : Int)) s 0 s (by omega) (by omega)
  have d0 := h.d s hsq
  rw [if_neg (by omega)] at d0
  obtain ⟨z1, z2⟩ := c_zero (f := 0) (y := 0 + (c : Int)) d0 (.inl rfl)
  have s4 : Pt l pts 1 (a + 2 + s) [0, 0 + (c : Int)] (a + 5 + q + q - 1 - s) [0, 0 + (c : Int)] := Pt.one z1 z2 (hn _ (by omega) (by omega))
  have s5 := ups_run h hn (0 + (c : Int)) s (q - 1 - s) 0 (by omega) (by omega)
  have s6 := many_loop h.m2 hq (.inr ⟨rfl, rfl⟩) (fun p h0 h1 => hn p (by omega) (by omega)) c (0 + (s : Int)) (by omega)
  obtain ⟨y1, y2⟩ := c_zero (y := 0 + (s : Int) + ((c * q : Nat) : Int)) h.m2.d (.inr rfl)
  have s7 : Un l pts 1 (a + 4 + q + q) (F2 1 0 (0 + (s : Int) + ((c * q : Nat) : Int))) Z (F2 1 0 (0 + (s : Int) + ((c * q : Nat) : Int))) := .last y1 y2 hZ
  have e1 : F2 1 (c : Int) (0 + (s : Int)) = [0 + (s : Int), 0 + (c : Int)] := by simp [F2]
  have e2 : F2 1 0 (0 + (s : Int) + ((c * q : Nat) : Int)) = [((c * q + s : Nat) : Int), 0] := by
    simp only [F2, if_neg (show ¬ (1 : Int) = 0 by decide)]
    congr 1
    push_cast
    omega
  rw [e1] at s6
  rw [e2] at s6 s7
  have s2' := s2.cast rfl rfl (show [((c * q : Nat) : Int) + (s : Int), 0] = [((c * q + s : Nat) : Int), 0] by push_cast; rfl) rfl rfl
  have s3' := s3.cast rfl (show a + 2 + ((0 : Nat) : Int) = a + 2 by simp) rfl (show a + 2 + ((0 : Nat) : Int) + (s : Int) = a + 2 + s by simp) (show [(s : Int) - (s : Int), 0 + (c : Int)] = [0, 0 + (c : Int)] by simp)
  have s5' := s5.cast rfl (show a + 5 + q + ((q - 1 - s : Nat) : Int) = a + 5 + q + q - 1 - s by omega) rfl rfl rfl
  have r := ((((s1.trans s2').trans s3').trans s4).trans s5').trans s6
  have r2 := r.un s7
  rw [show 2 + c * (q + 1) + s + 1 + s + c * (q + 1) + 1 = 4 + 2 * (c * (q + 1)) + 2 * s by omega] at r2
  exact r2

theorem rd45_nat (l : List S45) (i : Nat) (h : i < l.length) : rd_T45 l (i : Int) = l[i] := by
  simp [rd_T45, List.getD, h]
/-- A target of the maker: an instruction of the new machine (L: its length), or -1 - t for the instruction t of the old one (n: its length). -/
def tgt (n L t : Int) : Prop := (0 ≤ t ∧ t < L) ∨ (0 ≤ -1 - t ∧ -1 - t < n)
def preI (n L : Int) (x : S45) : Prop :=
  x = ⟨2, 0, 0, 0⟩ ∨ (x.f0 = 0 ∧ 0 ≤ x.f1 ∧ x.f1 < 2 ∧ tgt n L x.f2 ∧ x.f3 = 0) ∨ (x.f0 = 1 ∧ 0 ≤ x.f1 ∧ x.f1 < 2 ∧ tgt n L x.f2 ∧ tgt n L x.f3)
def AllP (n L : Int) (l : List S45) : Prop := ∀ x ∈ l, preI n L x
theorem AllP_snoc {n L : Int} {l : List S45} (h : AllP n L l) {x : S45} (hx : preI n L x) : AllP n L (l ++ [x]) := by
  intro y hy
  rcases List.mem_append.1 hy with hy | hy
  · exact h y hy
  · rw [List.mem_singleton] at hy
    rw [hy]
    exact hx
theorem pre0 {n L : Int} {r t : Int} (h0 : 0 ≤ r) (h1 : r < 2) (ht : tgt n L t) : preI n L ⟨0, r, t, 0⟩ := .inr (.inl ⟨rfl, h0, h1, ht, rfl⟩)
theorem pre1 {n L : Int} {r t u : Int} (h0 : 0 ≤ r) (h1 : r < 2) (ht : tgt n L t) (hu : tgt n L u) : preI n L ⟨1, r, t, u⟩ := .inr (.inr ⟨rfl, h0, h1, ht, hu⟩)
theorem begin_pre {n L : Int} {l : List S45} (h : AllP n L l) (hL : (l.length : Int) + 3 ≤ L) : AllP n L (mkBegin l) := by
  unfold mkBegin
  rw [show l ++ [(⟨0, 1, (l.length : Int) + 1, 0⟩ : S45), ⟨1, 1, (l.length : Int) + 2, (l.length : Int) + 2⟩] = (l ++ [⟨0, 1, (l.length : Int) + 1, 0⟩]) ++ [⟨1, 1, (l.length : Int) + 2, (l.length : Int) + 2⟩] by simp]
  exact AllP_snoc (AllP_snoc h (pre0 (by decide) (by decide) (.inl ⟨by omega, by omega⟩))) (pre1 (by decide) (by decide) (.inl ⟨by omega, by omega⟩) (.inl ⟨by omega, by omega⟩))
theorem incs_pre {n L a r m : Int} (ha : 0 ≤ a) (h0 : 0 ≤ r) (h1 : r < 2) (hL : a + 1 + m ≤ L) : ∀ (d : Nat) (i : Int) (l : List S45), 0 ≤ i → i + d = m → AllP n L l → AllP n L (mkIncs a r m d i l) := by
  intro d
  induction d with
  | zero => intro i l hi hd h; exact h
  | succ d ih =>
    intro i l hi hd h
    unfold mkIncs
    refine ih (i + 1) _ (by omega) (by omega) (AllP_snoc h (pre0 h0 h1 (.inl ?_)))
    by_cases e : i = m - 1
    · rw [if_pos e]; omega
    · rw [if_neg e]; omega
theorem many_pre {n L : Int} {l : List S45} {fr r m t : Int} (h : AllP n L l) (f0 : 0 ≤ fr) (f1 : fr < 2) (h0 : 0 ≤ r) (h1 : r < 2) (hm : 1 ≤ m) (hL : (l.length : Int) + 1 + m ≤ L) (ht : tgt n L t) : AllP n L (mkMany l fr r m t) := by
  unfold mkMany
  exact incs_pre (by omega) h0 h1 (by omega) _ 0 _ (by decide) (by omega) (AllP_snoc h (pre1 f0 f1 (.inl ⟨by omega, by omega⟩) ht))
theorem inc_pre {n L : Int} {l : List S45} {q t : Int} (h : AllP n L l) (hq : 1 ≤ q) (hL : (l.length : Int) + 5 + q ≤ L) (ht : tgt n L t) : AllP n L (mkInc l q t) := by
  have hb := mkBegin_length l
  have hm := mkMany_length (mkBegin l) 0 1 q ((((mkBegin l).length : Int) + 1) + q)
  unfold mkInc
  refine many_pre (many_pre (begin_pre h (by omega)) (by decide) (by decide) (by decide) (by decide) hq (by omega) (.inl ⟨by omega, by omega⟩)) (by decide) (by decide) (by decide) (by decide) (by decide) (by omega) ht
theorem decs_pre {n L a dn rest q : Int} (ha : 0 ≤ a) (hd0 : 0 ≤ dn) (hd1 : dn < L) (hr : 0 ≤ rest) (hL : rest + q ≤ L) (haL : a + q < L) : ∀ (d : Nat) (i : Int) (l : List S45), 0 ≤ i → i + d = q → AllP n L l → AllP n L (mkDecs a dn rest q d i l) := by
  intro d
  induction d with
  | zero => intro i l hi hd h; exact h
  | succ d ih =>
    intro i l hi hd h
    unfold mkDecs
    refine ih (i + 1) _ (by omega) (by omega) (AllP_snoc h (pre1 (by decide) (by decide) (.inl ⟨by omega, by omega⟩) (.inl ?_)))
    by_cases e : i = 0
    · rw [if_pos e]; omega
    · rw [if_neg e]; omega
theorem ups_pre {n L rest : Int} (hr : 0 ≤ rest) : ∀ (d : Nat) (i : Int) (l : List S45), 0 ≤ i → rest + i + d < L → AllP n L l → AllP n L (mkUps rest d i l) := by
  intro d
  induction d with
  | zero => intro i l hi hd h; exact h
  | succ d ih =>
    intro i l hi hd h
    unfold mkUps
    exact ih (i + 1) _ (by omega) (by omega) (AllP_snoc h (pre0 (by decide) (by decide) (.inl ⟨by omega, by omega⟩)))
theorem mkDec_length (l : List S45) (q t u : Int) (hq : 1 ≤ q) : ((mkDec l q t u).length : Int) = (l.length : Int) + 5 + 3 * q := by
  unfold mkDec
  simp only
  rw [mkMany_length, mkUps_length, mkMany_length, List.length_append, mkDecs_length, mkBegin_length]
  simp only [List.length_cons, List.length_nil]
  omega
theorem dec_pre {n L : Int} {l : List S45} {q t u : Int} (h : AllP n L l) (hq : 1 ≤ q) (hL : (l.length : Int) + 5 + 3 * q ≤ L) (ht : tgt n L t) (hu : tgt n L u) : AllP n L (mkDec l q t u) := by
  have hb := mkBegin_length l
  unfold mkDec
  simp only
  have e1 := mkDecs_length ((mkBegin l).length : Int) (((mkBegin l).length : Int) + q + 1) (((mkBegin l).length : Int) + q + 1 + 2) q q.toNat 0 (mkBegin l)
  have p1 : AllP n L (mkDecs ((mkBegin l).length : Int) (((mkBegin l).length : Int) + q + 1) (((mkBegin l).length : Int) + q + 1 + 2) q q.toNat 0 (mkBegin l)) := decs_pre (by omega) (by omega) (by omega) (by omega) (by omega) (by omega) _ 0 _ (by decide) (by omega) (begin_pre h (by omega))
  generalize mkDecs ((mkBegin l).length : Int) (((mkBegin l).length : Int) + q + 1) (((mkBegin l).length : Int) + q + 1 + 2) q q.toNat 0 (mkBegin l) = l1 at e1 p1 ⊢
  have e2 : (l1 ++ [(⟨0, 1, ((mkBegin l).length : Int), 0⟩ : S45)]).length = l1.length + 1 := by simp
  have p2 : AllP n L (l1 ++ [(⟨0, 1, ((mkBegin l).length : Int), 0⟩ : S45)]) := AllP_snoc p1 (pre0 (by decide) (by decide) (.inl ⟨by omega, by omega⟩))
  generalize l1 ++ [(⟨0, 1, ((mkBegin l).length : Int), 0⟩ : S45)] = l2 at e2 p2 ⊢
  have e3 := mkMany_length l2 1 0 1 t
  have p3 : AllP n L (mkMany l2 1 0 1 t) := many_pre p2 (by decide) (by decide) (by decide) (by decide) (by decide) (by omega) ht
  generalize mkMany l2 1 0 1 t = l3 at e3 p3 ⊢
  have e4 := mkUps_length (((mkBegin l).length : Int) + q + 1 + 2) (q - 1).toNat 0 l3
  have p4 : AllP n L (mkUps (((mkBegin l).length : Int) + q + 1 + 2) (q - 1).toNat 0 l3) := ups_pre (by omega) _ 0 _ (by decide) (by omega) p3
  exact many_pre p4 (by decide) (by decide) (by decide) (by decide) hq (by omega) hu
/-- What the maker adds, it adds at the end. -/
theorem incs_app (a r m : Int) : ∀ (d : Nat) (i : Int) (l : List S45), ∃ t, mkIncs a r m d i l = l ++ t
  | 0, i, l => ⟨[], by simp [mkIncs]⟩
  | d + 1, i, l => by
    unfold mkIncs
    obtain ⟨t, h⟩ := incs_app a r m d (i + 1) (l ++ [⟨0, r, if i = m - 1 then a else a + 2 + i, 0⟩])
    exact ⟨_, by rw [h, List.append_assoc]⟩
theorem many_app (l : List S45) (fr r m t : Int) : ∃ s, mkMany l fr r m t = l ++ s := by
  unfold mkMany
  obtain ⟨s, h⟩ := incs_app (l.length : Int) r m m.toNat 0 (l ++ [⟨1, fr, (l.length : Int) + 1, t⟩])
  exact ⟨_, by rw [h, List.append_assoc]⟩
theorem decs_app (a dn rest q : Int) : ∀ (d : Nat) (i : Int) (l : List S45), ∃ t, mkDecs a dn rest q d i l = l ++ t
  | 0, i, l => ⟨[], by simp [mkDecs]⟩
  | d + 1, i, l => by
    unfold mkDecs
    obtain ⟨t, h⟩ := decs_app a dn rest q d (i + 1) (l ++ [⟨1, 0, a + i + 1, if i = 0 then dn else rest + q - 1 - i⟩])
    exact ⟨_, by rw [h, List.append_assoc]⟩
theorem ups_app (rest : Int) : ∀ (d : Nat) (i : Int) (l : List S45), ∃ t, mkUps rest d i l = l ++ t
  | 0, i, l => ⟨[], by simp [mkUps]⟩
  | d + 1, i, l => by
    unfold mkUps
    obtain ⟨t, h⟩ := ups_app rest d (i + 1) (l ++ [⟨0, 0, rest + i + 1, 0⟩])
    exact ⟨_, by rw [h, List.append_assoc]⟩
theorem begin_app (l : List S45) : ∃ s, mkBegin l = l ++ ((⟨0, 1, (l.length : Int) + 1, 0⟩ : S45) :: s) := ⟨_, rfl⟩
theorem inc_app (l : List S45) (q t : Int) : ∃ s, mkInc l q t = l ++ ((⟨0, 1, (l.length : Int) + 1, 0⟩ : S45) :: s) := by
  unfold mkInc
  obtain ⟨s1, h1⟩ := begin_app l
  obtain ⟨s2, h2⟩ := many_app (mkBegin l) 0 1 q ((((mkBegin l).length : Int) + 1) + q)
  obtain ⟨s3, h3⟩ := many_app (mkMany (mkBegin l) 0 1 q ((((mkBegin l).length : Int) + 1) + q)) 1 0 1 t
  exact ⟨s1 ++ s2 ++ s3, by rw [h3, h2, h1]; simp⟩
theorem dec_app (l : List S45) (q t u : Int) : ∃ s, mkDec l q t u = l ++ ((⟨0, 1, (l.length : Int) + 1, 0⟩ : S45) :: s) := by
  unfold mkDec
  simp only
  obtain ⟨s1, h1⟩ := begin_app l
  obtain ⟨s2, h2⟩ := decs_app ((mkBegin l).length : Int) (((mkBegin l).length : Int) + q + 1) (((mkBegin l).length : Int) + q + 1 + 2) q q.toNat 0 (mkBegin l)
  rw [h2]
  obtain ⟨s3, h3⟩ := many_app (mkBegin l ++ s2 ++ [(⟨0, 1, ((mkBegin l).length : Int), 0⟩ : S45)]) 1 0 1 t
  rw [h3]
  obtain ⟨s4, h4⟩ := ups_app (((mkBegin l).length : Int) + q + 1 + 2) (q - 1).toNat 0 (mkBegin l ++ s2 ++ [(⟨0, 1, ((mkBegin l).length : Int), 0⟩ : S45)] ++ s3)
  rw [h4]
  obtain ⟨s5, h5⟩ := many_app (mkBegin l ++ s2 ++ [(⟨0, 1, ((mkBegin l).length : Int), 0⟩ : S45)] ++ s3 ++ s4) 1 0 q u
  rw [h5]
  refine ⟨s1 ++ s2 ++ [(⟨0, 1, ((mkBegin l).length : Int), 0⟩ : S45)] ++ s3 ++ s4 ++ s5, ?_⟩
  generalize ((mkBegin l).length : Int) = bl
  rw [h1]
  simp
/-- An instruction of the old machine, and what stands for it. -/
def okO (n : Int) (x : S45) : Prop := (x.f0 = 0 ∨ x.f0 = 1 ∨ x.f0 = 2) ∧ (x.f0 ≠ 2 → 0 ≤ x.f1 ∧ x.f1 < 6 ∧ 0 ≤ x.f2 ∧ x.f2 < n ∧ 0 ≤ x.f3 ∧ x.f3 < n)
def gad (cd : List S45) (x : S45) : List S45 :=
  if x.f0 = 0 then mkInc cd (rd [2, 3, 5, 7, 11, 13] x.f1) (-1 - x.f2) else if x.f0 = 1 then mkDec cd (rd [2, 3, 5, 7, 11, 13] x.f1) (-1 - x.f2) (-1 - x.f3) else cd ++ [⟨2, 0, 0, 0⟩]
theorem prime_rd {r : Int} (h0 : 0 ≤ r) (h1 : r < 6) : 2 ≤ rd [2, 3, 5, 7, 11, 13] r ∧ rd [2, 3, 5, 7, 11, 13] r ≤ 13 := by
  rcases (by omega : r = 0 ∨ r = 1 ∨ r = 2 ∨ r = 3 ∨ r = 4 ∨ r = 5) with rfl | rfl | rfl | rfl | rfl | rfl <;> decide
theorem gad_app (cd : List S45) (x : S45) (hx : x.f0 = 0 ∨ x.f0 = 1 ∨ x.f0 = 2) : ∃ y s, gad cd x = cd ++ (y :: s) ∧ (y.f0 = 2 ↔ x.f0 = 2) := by
  unfold gad
  by_cases a : x.f0 = 0
  · rw [if_pos a]
    obtain ⟨s, h⟩ := inc_app cd (rd [2, 3, 5, 7, 11, 13] x.f1) (-1 - x.f2)
    exact ⟨_, _, h, by simp [a]⟩
  rw [if_neg a]
  by_cases b : x.f0 = 1
  · rw [if_pos b]
    obtain ⟨s, h⟩ := dec_app cd (rd [2, 3, 5, 7, 11, 13] x.f1) (-1 - x.f2) (-1 - x.f3)
    exact ⟨_, _, h, by simp [b]⟩
  rw [if_neg b]
  exact ⟨_, [], rfl, by simp; omega⟩
theorem gad_len {n : Int} (cd : List S45) (x : S45) (hx : okO n x) : cd.length < (gad cd x).length ∧ (gad cd x).length ≤ cd.length + 44 := by
  unfold gad
  by_cases a : x.f0 = 0
  · rw [if_pos a, mkInc_length]
    have := prime_rd (hx.2 (by omega)).1 (hx.2 (by omega)).2.1
    omega
  rw [if_neg a]
  by_cases b : x.f0 = 1
  · rw [if_pos b]
    have := prime_rd (hx.2 (by omega)).1 (hx.2 (by omega)).2.1
    have h := mkDec_length cd (rd [2, 3, 5, 7, 11, 13] x.f1) (-1 - x.f2) (-1 - x.f3) (by omega)
    omega
  rw [if_neg b, List.length_append]
  simp
theorem gad_pre {n L : Int} {cd : List S45} {x : S45} (hx : okO n x) (h : AllP n L cd) (hL : ((gad cd x).length : Int) ≤ L) : AllP n L (gad cd x) := by
  unfold gad at hL ⊢
  by_cases a : x.f0 = 0
  · rw [if_pos a] at hL ⊢
    obtain ⟨k0, k1, k2, k3, k4, k5⟩ := hx.2 (by omega)
    have := prime_rd k0 k1
    rw [mkInc_length] at hL
    exact inc_pre h (by omega) (by omega) (.inr ⟨by omega, by omega⟩)
  rw [if_neg a] at hL ⊢
  by_cases b : x.f0 = 1
  · rw [if_pos b] at hL ⊢
    obtain ⟨k0, k1, k2, k3, k4, k5⟩ := hx.2 (by omega)
    have := prime_rd k0 k1
    rw [mkDec_length _ _ _ _ (by omega)] at hL
    exact dec_pre h (by omega) (by omega) (.inr ⟨by omega, by omega⟩) (.inr ⟨by omega, by omega⟩)
  rw [if_neg b]
  exact AllP_snoc h (.inl rfl)
/-- The maker's rounds. -/
def twoP (code : List S45) : Nat → Nat → List Int → List S45 → List Int × List S45
  | 0, _, pts, cd => (pts, cd)
  | d + 1, i, pts, cd => twoP code d (i + 1) (pts ++ [(cd.length : Int)]) (gad cd (rd_T45 code (i : Int)))
theorem twoGo_eq (code : List S45) (hc : ∀ x ∈ code, okO (code.length : Int) x) (hn : code.length ≤ 2000) : ∀ (d i : Nat) (pts : List Int) (cd : List S45), i + d = code.length → cd.length ≤ 44 * i → pts.length = i → twoGo code d (i : Int) pts cd = some (twoP code d i pts cd) ∧ (twoP code d i pts cd).2.length ≤ 44 * code.length := by
  intro d
  induction d with
  | zero => intro i pts cd hi hl hp; exact ⟨rfl, by simp only [twoP]; omega⟩
  | succ d ih =>
    intro i pts cd hi hl hp
    have hx := hc _ (List.getElem_mem (show i < code.length by omega))
    rw [← rd45_nat code i (by omega)] at hx
    have hgl := gad_len cd (rd_T45 code (i : Int)) hx
    have ih := ih (i + 1) (pts ++ [(cd.length : Int)]) (gad cd (rd_T45 code (i : Int))) (by omega) (by omega) (by simp [hp])
    rw [show (((i + 1 : Nat)) : Int) = (i : Int) + 1 by push_cast; rfl] at ih
    simp only [twoP]
    refine ⟨?_, ih.2⟩
    rw [← ih.1]
    simp only [twoGo]
    rw [if_pos ⟨by omega, by omega⟩]
    generalize rd_T45 code (i : Int) = x at hx
    unfold gad
    by_cases a : x.f0 = 0
    · obtain ⟨k0, k1, k2, k3, k4, k5⟩ := hx.2 (by omega)
      rw [if_pos a, if_pos a, if_pos ⟨⟨k0, k1⟩, k2, by omega⟩]
    rw [if_neg a, if_neg a]
    by_cases b : x.f0 = 1
    · obtain ⟨k0, k1, k2, k3, k4, k5⟩ := hx.2 (by omega)
      rw [if_pos b, if_pos b, if_pos ⟨⟨k0, k1⟩, ⟨k2, by omega⟩, k4, by omega⟩]
    rw [if_neg b, if_neg b]

theorem rd_app_l (l m : List Int) (j : Nat) (h : j < l.length) : rd (l ++ m) (j : Int) = rd l (j : Int) := by
  rw [rd_nat _ j (by rw [List.length_append]; omega), rd_nat l j h, List.getElem_append_left h]
theorem rd_app_r (l : List Int) (a : Int) (j : Nat) (h : j = l.length) : rd (l ++ [a]) (j : Int) = a := by
  subst h
  rw [rd_nat _ _ (by simp)]
  simp
theorem rdc_app (l m : List S45) {p : Int} (h0 : 0 ≤ p) (h : p < (l.length : Int)) : rd_T45 (l ++ m) p = rd_T45 l p := by
  obtain ⟨j, rfl⟩ := Int.eq_ofNat_of_zero_le h0
  rw [rd45_nat _ j (by rw [List.length_append]; omega), rd45_nat l j (by omega), List.getElem_append_left (by omega)]
theorem rdc_at (l m : List S45) (x : S45) {p : Int} (h : p = (l.length : Int)) : rd_T45 (l ++ (x :: m)) p = x := by
  subst h
  rw [rd45_nat _ _ (by simp)]
  simp
structure InvT (code : List S45) (i : Nat) (pts : List Int) (cd : List S45) : Prop where
  len : pts.length = i
  rng : ∀ j, j < i → 0 ≤ rd pts (j : Int) ∧ rd pts (j : Int) < (cd.length : Int)
  up : ∀ j, j + 1 < i → rd pts (j : Int) < rd pts ((j + 1 : Nat) : Int)
  op : ∀ j, j < i → ((rd_T45 cd (rd pts (j : Int))).f0 = 2 ↔ (rd_T45 code (j : Int)).f0 = 2)
  fst : 0 < i → rd pts 0 = 0
  nil : i = 0 → cd = []
theorem InvT_step {code : List S45} {i : Nat} {pts : List Int} {cd : List S45} (h : InvT code i pts cd) (hx : okO (code.length : Int) (rd_T45 code (i : Int))) : InvT code (i + 1) (pts ++ [(cd.length : Int)]) (gad cd (rd_T45 code (i : Int))) := by
  obtain ⟨y, s, e, ey⟩ := gad_app cd (rd_T45 code (i : Int)) hx.1
  have hl := h.len
  have hg := gad_len cd (rd_T45 code (i : Int)) hx
  refine ⟨by simp [hl], ?_, ?_, ?_, ?_, fun h0 => by omega⟩
  · intro j hj
    by_cases c : j = i
    · rw [rd_app_r pts _ j (by omega)]
      omega
    · rw [rd_app_l pts _ j (by omega)]
      have := h.rng j (by omega)
      omega
  · intro j hj
    by_cases c : j + 1 = i
    · rw [rd_app_r pts _ (j + 1) (by omega), rd_app_l pts _ j (by omega)]
      exact (h.rng j (by omega)).2
    · rw [rd_app_l pts _ (j + 1) (by omega), rd_app_l pts _ j (by omega)]
      exact h.up j (by omega)
  · intro j hj
    by_cases c : j = i
    · rw [rd_app_r pts _ j (by omega), e, rdc_at _ _ _ rfl, ey, c]
    · have hr := h.rng j (by omega)
      rw [rd_app_l pts _ j (by omega), e, rdc_app _ _ hr.1 hr.2]
      exact h.op j (by omega)
  · intro _
    by_cases c : i = 0
    · have h1 : cd = [] := h.nil c
      have := rd_app_r pts (cd.length : Int) 0 (by omega)
      rw [h1] at this ⊢
      exact this
    · have := rd_app_l pts [(cd.length : Int)] 0 (by omega)
      exact this.trans (h.fst (by omega))
theorem twoP_inv (code : List S45) (hc : ∀ x ∈ code, okO (code.length : Int) x) : ∀ (d i : Nat) (pts : List Int) (cd : List S45), i + d = code.length → InvT code i pts cd → InvT code code.length (twoP code d i pts cd).1 (twoP code d i pts cd).2 := by
  intro d
  induction d with
  | zero =>
    intro i pts cd hi h
    have : i = code.length := by omega
    rw [← this]
    exact h
  | succ d ih =>
    intro i pts cd hi h
    have hx := hc _ (List.getElem_mem (show i < code.length by omega))
    rw [← rd45_nat code i (by omega)] at hx
    exact ih (i + 1) _ _ (by omega) (InvT_step h hx)
theorem twoP_len (code : List S45) (hc : ∀ x ∈ code, okO (code.length : Int) x) : ∀ (d i : Nat) (pts : List Int) (cd : List S45), i + d = code.length → cd.length + d ≤ (twoP code d i pts cd).2.length := by
  intro d
  induction d with
  | zero => intro i pts cd hi; exact Nat.le_refl _
  | succ d ih =>
    intro i pts cd hi
    have hx := hc _ (List.getElem_mem (show i < code.length by omega))
    rw [← rd45_nat code i (by omega)] at hx
    have hg := gad_len cd (rd_T45 code (i : Int)) hx
    have := ih (i + 1) (pts ++ [(cd.length : Int)]) (gad cd (rd_T45 code (i : Int))) (by omega)
    simp only [twoP]
    omega
theorem twoP_pre (code : List S45) (hc : ∀ x ∈ code, okO (code.length : Int) x) (L : Int) : ∀ (d i : Nat) (pts : List Int) (cd : List S45), i + d = code.length → AllP (code.length : Int) L cd → ((twoP code d i pts cd).2.length : Int) ≤ L → AllP (code.length : Int) L (twoP code d i pts cd).2 := by
  intro d
  induction d with
  | zero => intro i pts cd hi h hL; exact h
  | succ d ih =>
    intro i pts cd hi h hL
    have hx := hc _ (List.getElem_mem (show i < code.length by omega))
    rw [← rd45_nat code i (by omega)] at hx
    have hl := twoP_len code hc d (i + 1) (pts ++ [(cd.length : Int)]) (gad cd (rd_T45 code (i : Int))) (by omega)
    simp only [twoP] at hL ⊢
    exact ih (i + 1) _ _ (by omega) (gad_pre hx h (by omega)) hL
/-- The second pass: targets of the old machine become points. -/
def fx (pts : List Int) (t : Int) : Int := if t < 0 then rd pts (-1 - t) else t
def fixI (pts : List Int) (x : S45) : S45 := ⟨x.f0, x.f1, fx pts x.f2, fx pts x.f3⟩
def okT (pts : List Int) (t : Int) : Prop := t < 0 → -1000000000 ≤ t ∧ -1 - t < (pts.length : Int)
theorem rdc_set (c : List S45) (i j : Nat) (hi : i < c.length) (hj : j < c.length) (y : S45) : rd_T45 (c.set i y) (j : Int) = if i = j then y else rd_T45 c (j : Int) := by
  rw [rd45_nat _ j (by rw [List.length_set]; exact hj), List.getElem_set]
  split
  · rfl
  · rw [rd45_nat c j hj]
theorem set_self45 (c : List S45) (i : Nat) (hi : i < c.length) : c.set i (rd_T45 c (i : Int)) = c := by
  rw [rd45_nat c i hi]
  simp
theorem fix2_eq (pts : List Int) (i : Nat) (c : List S45) (hi : i < c.length) (h : okT pts (rd_T45 c (i : Int)).f2) : fix2 pts (i : Int) c = some (c.set i ⟨(rd_T45 c (i : Int)).f0, (rd_T45 c (i : Int)).f1, fx pts (rd_T45 c (i : Int)).f2, (rd_T45 c (i : Int)).f3⟩) := by
  unfold fix2 fx
  by_cases a : (rd_T45 c (i : Int)).f2 < 0
  · rw [if_pos a, if_pos a, if_pos (h a), Int.toNat_natCast]
  · rw [if_neg a, if_neg a]
    congr 1
    exact (set_self45 c i hi).symm
theorem fix3_eq (pts : List Int) (i : Nat) (c : List S45) (hi : i < c.length) (h : okT pts (rd_T45 c (i : Int)).f3) : fix3 pts (i : Int) c = some (c.set i ⟨(rd_T45 c (i : Int)).f0, (rd_T45 c (i : Int)).f1, (rd_T45 c (i : Int)).f2, fx pts (rd_T45 c (i : Int)).f3⟩) := by
  unfold fix3 fx
  by_cases a : (rd_T45 c (i : Int)).f3 < 0
  · rw [if_pos a, if_pos a, if_pos (h a), Int.toNat_natCast]
  · rw [if_neg a, if_neg a]
    congr 1
    exact (set_self45 c i hi).symm
theorem twoFix_eq (pts : List Int) : ∀ (d i : Nat) (c : List S45), i + d = c.length → (∀ j, i ≤ j → j < c.length → okT pts (rd_T45 c (j : Int)).f2 ∧ okT pts (rd_T45 c (j : Int)).f3) → ∃ r, twoFix pts d (i : Int) c = some r ∧ r.length = c.length ∧ ∀ j, j < c.length → rd_T45 r (j : Int) = if i ≤ j then fixI pts (rd_T45 c (j : Int)) else rd_T45 c (j : Int) := by
  intro d
  induction d with
  | zero =>
    intro i c hi h
    exact ⟨c, rfl, rfl, fun j hj => by rw [if_neg (by omega)]⟩
  | succ d ih =>
    intro i c hi h
    have hic : i < c.length := by omega
    have h2 := fix2_eq pts i c hic (h i (Nat.le_refl _) hic).1
    obtain ⟨c1, hc1⟩ : ∃ z, c.set i ⟨(rd_T45 c (i : Int)).f0, (rd_T45 c (i : Int)).f1, fx pts (rd_T45 c (i : Int)).f2, (rd_T45 c (i : Int)).f3⟩ = z := ⟨_, rfl⟩
    have hl1 : c1.length = c.length := by rw [← hc1, List.length_set]
    have r1 : rd_T45 c1 (i : Int) = ⟨(rd_T45 c (i : Int)).f0, (rd_T45 c (i : Int)).f1, fx pts (rd_T45 c (i : Int)).f2, (rd_T45 c (i : Int)).f3⟩ := by
      rw [← hc1, rdc_set c i i hic hic, if_pos rfl]
    have h3 := fix3_eq pts i c1 (by omega) (by rw [r1]; exact (h i (Nat.le_refl _) hic).2)
    rw [r1] at h3
    rw [hc1] at h2
    obtain ⟨c2, hc2⟩ : ∃ z, c1.set i (fixI pts (rd_T45 c (i : Int))) = z := ⟨_, rfl⟩
    have h3' : fix3 pts (i : Int) c1 = some c2 := by rw [h3, ← hc2]; rfl
    have hc2' : c2 = c.set i (fixI pts (rd_T45 c (i : Int))) := by rw [← hc2, ← hc1, List.set_set]
    have hl2 : c2.length = c.length := by rw [hc2', List.length_set]
    have r2 : ∀ j, j < c.length → rd_T45 c2 (j : Int) = if i = j then fixI pts (rd_T45 c (i : Int)) else rd_T45 c (j : Int) := fun j hj => by rw [hc2', rdc_set c i j hic hj]
    obtain ⟨r, e1, e2, e3⟩ := ih (i + 1) c2 (by omega) (fun j hj hj2 => by
      rw [r2 j (by omega), if_neg (by omega)]
      exact h j (by omega) (by omega))
    refine ⟨r, ?_, by omega, fun j hj => ?_⟩
    · simp only [twoFix, h2, Option.bind_some, h3']
      rw [← e1]
      congr 1
    · rw [e3 j (by omega)]
      by_cases a : i + 1 ≤ j
      · rw [if_pos a, if_pos (by omega), r2 j hj, if_neg (by omega)]
      · rw [if_neg a, r2 j hj]
        by_cases b : i = j
        · subst b
          rw [if_pos rfl, if_pos (Nat.le_refl _)]
        · rw [if_neg b, if_neg (by omega)]
theorem okO_of {R : Int} {l : List S45} (h : okC R l = true) (hR : R ≤ 6) : ∀ x ∈ l, okO (l.length : Int) x := by
  intro x hx
  rcases (okC_true h).2.2.2.2 x hx with ⟨a, b, c, d⟩ | ⟨a, b, c, d, e, f⟩ | ⟨a, b, c, d, e, f, g⟩
  · exact ⟨by omega, fun h => absurd a h⟩
  · exact ⟨by omega, fun _ => by omega⟩
  · exact ⟨by omega, fun _ => by omega⟩
/-- The machine with two registers, and its points. -/
structure IsTwo (code : List S45) (pts : List Int) (cd : List S45) : Prop where
  eq : (pts, cd) = twoP code code.length 0 [] []
  inv : InvT code code.length pts cd
  pre : AllP (code.length : Int) (cd.length : Int) cd
theorem isTwo {R : Int} {l : List S45} (h : okC R l = true) (hR : R ≤ 6) : IsTwo l (twoP l l.length 0 [] []).1 (twoP l l.length 0 [] []).2 :=
  ⟨rfl, twoP_inv l (okO_of h hR) l.length 0 [] [] (by omega) ⟨rfl, fun j hj => by omega, fun j hj => by omega, fun j hj => by omega, fun h => by omega, fun _ => rfl⟩, twoP_pre l (okO_of h hR) _ l.length 0 [] [] (by omega) (fun x hx => by cases hx) (Int.le_refl _)⟩
theorem preI_okT {n L : Int} {pts : List Int} (hp : (pts.length : Int) = n) (hn : n ≤ 1000) {x : S45} (h : preI n L x) : okT pts x.f2 ∧ okT pts x.f3 := by
  rcases h with rfl | ⟨a, b, c, d, e⟩ | ⟨a, b, c, d, e⟩
  · exact ⟨fun h => absurd h (by decide), fun h => absurd h (by decide)⟩
  · unfold tgt at d
    exact ⟨fun h => by omega, fun h => by omega⟩
  · unfold tgt at d e
    exact ⟨fun h => by omega, fun h => by omega⟩
theorem fx_rng {n L : Int} {pts : List Int} (hp : (pts.length : Int) = n) (hr : ∀ j, j < pts.length → 0 ≤ rd pts (j : Int) ∧ rd pts (j : Int) < L) {t : Int} (h : tgt n L t) : 0 ≤ fx pts t ∧ fx pts t < L := by
  unfold fx
  rcases h with h | h
  · rw [if_neg (by omega)]
    exact h
  · rw [if_pos (by omega)]
    obtain ⟨j, hj⟩ := Int.eq_ofNat_of_zero_le h.1
    rw [hj]
    exact hr j (by omega)
/-- What Two answers where it does not refuse. -/
theorem two_fix {R : Int} {l : List S45} (h : okC R l = true) (hR : R ≤ 6) (hn : l.length ≤ 1000 ∨ (twoP l l.length 0 [] []).2.length ≤ 2000) : ∃ r, twoFix (twoP l l.length 0 [] []).1 (twoP l l.length 0 [] []).2.length 0 (twoP l l.length 0 [] []).2 = some r ∧ r.length = (twoP l l.length 0 [] []).2.length ∧ ∀ j, j < r.length → rd_T45 r (j : Int) = fixI (twoP l l.length 0 [] []).1 (rd_T45 (twoP l l.length 0 [] []).2 (j : Int)) := by
  have H := isTwo h hR
  have hl := (okC_true h).2.2.2.1
  have hlen := H.inv.len
  generalize (twoP l l.length 0 [] []).1 = pts at *
  generalize (twoP l l.length 0 [] []).2 = cd at *
  obtain ⟨r, e1, e2, e3⟩ := twoFix_eq pts cd.length 0 cd (by omega) (fun j h0 h1 => by
    have hx := H.pre _ (List.getElem_mem h1)
    rw [← rd45_nat cd j h1] at hx
    rcases hx with hx | ⟨a, b, c, d, e⟩ | ⟨a, b, c, d, e⟩
    · rw [hx]
      exact ⟨fun h => absurd h (by decide), fun h => absurd h (by decide)⟩
    · unfold tgt at d
      exact ⟨fun h => by omega, fun h => by omega⟩
    · unfold tgt at d e
      exact ⟨fun h => by omega, fun h => by omega⟩)
  exact ⟨r, e1, e2, fun j hj => by rw [e3 j (by omega), if_pos (Nat.zero_le _)]⟩

/-! What stands where in the maker's code. -/
theorem rdc_l (l : List S45) (s : List S45) (x : S45) : rd_T45 (l ++ (x :: s)) (l.length : Int) = x := rdc_at l s x rfl
theorem incs_get (a r m : Int) : ∀ (d : Nat) (i : Int) (l : List S45) (e : Nat), e < d → rd_T45 (mkIncs a r m d i l) ((l.length + e : Nat) : Int) = ⟨0, r, if i + e = m - 1 then a else a + 2 + (i + e), 0⟩ := by
  intro d
  induction d with
  | zero => intro i l e he; omega
  | succ d ih =>
    intro i l e he
    unfold mkIncs
    by_cases c : e = 0
    · subst c
      obtain ⟨t, ht⟩ := incs_app a r m d (i + 1) (l ++ [⟨0, r, if i = m - 1 then a else a + 2 + i, 0⟩])
      rw [ht, List.append_assoc]
      have := rdc_at l ([] ++ t) (⟨0, r, if i = m - 1 then a else a + 2 + i, 0⟩ : S45) (p := ((l.length + 0 : Nat) : Int)) rfl
      simp only [List.nil_append] at this
      simp only [List.cons_append, List.nil_append, this]
      simp
    · obtain ⟨f, rfl⟩ : ∃ f, e = f + 1 := ⟨e - 1, by omega⟩
      have := ih (i + 1) (l ++ [⟨0, r, if i = m - 1 then a else a + 2 + i, 0⟩]) f (by omega)
      rw [show (l ++ [(⟨0, r, if i = m - 1 then a else a + 2 + i, 0⟩ : S45)]).length + f = l.length + (f + 1) by simp; omega] at this
      rw [this, show i + 1 + (f : Int) = i + ((f + 1 : Nat) : Int) by push_cast; omega]
theorem decs_get (a dn rest q : Int) : ∀ (d : Nat) (i : Int) (l : List S45) (e : Nat), e < d → rd_T45 (mkDecs a dn rest q d i l) ((l.length + e : Nat) : Int) = ⟨1, 0, a + (i + e) + 1, if i + e = 0 then dn else rest + q - 1 - (i + e)⟩ := by
  intro d
  induction d with
  | zero => intro i l e he; omega
  | succ d ih =>
    intro i l e he
    unfold mkDecs
    by_cases c : e = 0
    · subst c
      obtain ⟨t, ht⟩ := decs_app a dn rest q d (i + 1) (l ++ [⟨1, 0, a + i + 1, if i = 0 then dn else rest + q - 1 - i⟩])
      rw [ht, List.append_assoc]
      have := rdc_at l ([] ++ t) (⟨1, 0, a + i + 1, if i = 0 then dn else rest + q - 1 - i⟩ : S45) (p := ((l.length + 0 : Nat) : Int)) rfl
      simp only [List.nil_append] at this
      simp only [List.cons_append, List.nil_append, this]
      simp
    · obtain ⟨f, rfl⟩ : ∃ f, e = f + 1 := ⟨e - 1, by omega⟩
      have := ih (i + 1) (l ++ [⟨1, 0, a + i + 1, if i = 0 then dn else rest + q - 1 - i⟩]) f (by omega)
      rw [show (l ++ [(⟨1, 0, a + i + 1, if i = 0 then dn else rest + q - 1 - i⟩ : S45)]).length + f = l.length + (f + 1) by simp; omega] at this
      rw [this, show i + 1 + (f : Int) = i + ((f + 1 : Nat) : Int) by push_cast; omega]
theorem ups_get (rest : Int) : ∀ (d : Nat) (i : Int) (l : List S45) (e : Nat), e < d → rd_T45 (mkUps rest d i l) ((l.length + e : Nat) : Int) = ⟨0, 0, rest + (i + e) + 1, 0⟩ := by
  intro d
  induction d with
  | zero => intro i l e he; omega
  | succ d ih =>
    intro i l e he
    unfold mkUps
    by_cases c : e = 0
    · subst c
      obtain ⟨t, ht⟩ := ups_app rest d (i + 1) (l ++ [⟨0, 0, rest + i + 1, 0⟩])
      rw [ht, List.append_assoc]
      have := rdc_at l ([] ++ t) (⟨0, 0, rest + i + 1, 0⟩ : S45) (p := ((l.length + 0 : Nat) : Int)) rfl
      simp only [List.nil_append] at this
      simp only [List.cons_append, List.nil_append, this]
      simp
    · obtain ⟨f, rfl⟩ : ∃ f, e = f + 1 := ⟨e - 1, by omega⟩
      have := ih (i + 1) (l ++ [⟨0, 0, rest + i + 1, 0⟩]) f (by omega)
      rw [show (l ++ [(⟨0, 0, rest + i + 1, 0⟩ : S45)]).length + f = l.length + (f + 1) by simp; omega] at this
      rw [this, show i + 1 + (f : Int) = i + ((f + 1 : Nat) : Int) by push_cast; omega]
theorem many_at (l : List S45) (f g t : Int) (m : Nat) : MAt (mkMany l f g (m : Int) t) (l.length : Int) f g m t := by
  unfold mkMany
  constructor
  · obtain ⟨s, hs⟩ := incs_app (l.length : Int) g (m : Int) (m : Int).toNat 0 (l ++ [⟨1, f, (l.length : Int) + 1, t⟩])
    rw [hs, List.append_assoc]
    exact rdc_l l s _
  · intro i hi
    have := incs_get (l.length : Int) g (m : Int) (m : Int).toNat 0 (l ++ [⟨1, f, (l.length : Int) + 1, t⟩]) i (by omega)
    rw [show ((((l ++ [(⟨1, f, (l.length : Int) + 1, t⟩ : S45)]).length + i : Nat)) : Int) = (l.length : Int) + 1 + i by simp] at this
    rw [this]
    simp only [Int.zero_add]
theorem MAt.app {l : List S45} {b f g t : Int} {m : Nat} (h : MAt l b f g m t) (h0 : 0 ≤ b) (hb : b + m < (l.length : Int)) (s : List S45) : MAt (l ++ s) b f g m t :=
  ⟨by rw [rdc_app l s h0 (by omega)]; exact h.d, fun i hi => by rw [rdc_app l s (by omega) (by omega)]; exact h.i i hi⟩
theorem begin_get (l s : List S45) : rd_T45 (mkBegin l ++ s) (l.length : Int) = ⟨0, 1, (l.length : Int) + 1, 0⟩ ∧ rd_T45 (mkBegin l ++ s) ((l.length : Int) + 1) = ⟨1, 1, (l.length : Int) + 2, (l.length : Int) + 2⟩ := by
  unfold mkBegin
  constructor
  · rw [List.append_assoc]
    exact rdc_l l _ _
  · rw [show l ++ [(⟨0, 1, (l.length : Int) + 1, 0⟩ : S45), ⟨1, 1, (l.length : Int) + 2, (l.length : Int) + 2⟩] ++ s = (l ++ [⟨0, 1, (l.length : Int) + 1, 0⟩]) ++ ((⟨1, 1, (l.length : Int) + 2, (l.length : Int) + 2⟩ : S45) :: s) by simp]
    exact rdc_at _ _ _ (by simp)
theorem inc_at (l : List S45) (q : Nat) (t : Int) : IncAt (mkInc l (q : Int) t) (l.length : Int) q t := by
  have hb := mkBegin_length l
  have e1 := mkMany_length (mkBegin l) 0 1 (q : Int) ((((mkBegin l).length : Int) + 1) + q)
  obtain ⟨s2, h2⟩ := many_app (mkBegin l) 0 1 (q : Int) ((((mkBegin l).length : Int) + 1) + q)
  have m1 := many_at (mkBegin l) 0 1 ((((mkBegin l).length : Int) + 1) + q) q
  have m2 := many_at (mkMany (mkBegin l) 0 1 (q : Int) ((((mkBegin l).length : Int) + 1) + q)) 1 0 t 1
  obtain ⟨s3, h3⟩ := many_app (mkMany (mkBegin l) 0 1 (q : Int) ((((mkBegin l).length : Int) + 1) + q)) 1 0 1 t
  have m1' := m1.app (by omega) (by omega) s3
  have hg := begin_get l (s2 ++ s3)
  rw [← List.append_assoc, ← h2, ← h3] at hg
  rw [← h3] at m1'
  unfold mkInc
  refine ⟨hg.1, hg.2, ?_, ?_⟩
  · rw [show ((mkBegin l).length : Int) = (l.length : Int) + 2 by omega] at m1'
    rw [show (l.length : Int) + 2 + 1 + (q : Int) = (l.length : Int) + 3 + q by omega] at m1'
    rw [show ((mkBegin l).length : Int) = (l.length : Int) + 2 by omega]
    rw [show (l.length : Int) + 2 + 1 + (q : Int) = (l.length : Int) + 3 + q by omega]
    exact m1'
  · rw [show ((mkMany (mkBegin l) 0 1 (q : Int) ((((mkBegin l).length : Int) + 1) + q)).length : Int) = (l.length : Int) + 3 + q by omega] at m2
    exact m2
theorem dec_at (l : List S45) (q : Nat) (hq : 1 ≤ q) (t u : Int) : DecAt (mkDec l (q : Int) t u) (l.length : Int) q t u := by
  have hb := mkBegin_length l
  unfold mkDec
  simp only
  have e1 := mkDecs_length ((mkBegin l).length : Int) (((mkBegin l).length : Int) + q + 1) (((mkBegin l).length : Int) + q + 1 + 2) (q : Int) (q : Int).toNat 0 (mkBegin l)
  have g1 := decs_get ((mkBegin l).length : Int) (((mkBegin l).length : Int) + q + 1) (((mkBegin l).length : Int) + q + 1 + 2) (q : Int) (q : Int).toNat 0 (mkBegin l)
  obtain ⟨s1, h1⟩ := decs_app ((mkBegin l).length : Int) (((mkBegin l).length : Int) + q + 1) (((mkBegin l).length : Int) + q + 1 + 2) (q : Int) (q : Int).toNat 0 (mkBegin l)
  obtain ⟨l1, hl1⟩ : ∃ z, mkDecs ((mkBegin l).length : Int) (((mkBegin l).length : Int) + q + 1) (((mkBegin l).length : Int) + q + 1 + 2) (q : Int) (q : Int).toNat 0 (mkBegin l) = z := ⟨_, rfl⟩
  rw [hl1] at e1 g1 h1 ⊢
  obtain ⟨l2, hl2⟩ : ∃ z, l1 ++ [(⟨0, 1, ((mkBegin l).length : Int), 0⟩ : S45)] = z := ⟨_, rfl⟩
  have e2 : l2.length = l1.length + 1 := by rw [← hl2]; simp
  rw [hl2]
  have m3 := many_at l2 1 0 t 1
  have e3 := mkMany_length l2 1 0 1 t
  obtain ⟨s3, h3⟩ := many_app l2 1 0 1 t
  obtain ⟨l3, hl3⟩ : ∃ z, mkMany l2 1 0 1 t = z := ⟨_, rfl⟩
  rw [show (((1 : Nat)) : Int) = 1 from rfl] at m3
  rw [hl3] at m3 e3 h3 ⊢
  have e4 := mkUps_length (((mkBegin l).length : Int) + q + 1 + 2) ((q : Int) - 1).toNat 0 l3
  have g4 := ups_get (((mkBegin l).length : Int) + q + 1 + 2) ((q : Int) - 1).toNat 0 l3
  obtain ⟨s4, h4⟩ := ups_app (((mkBegin l).length : Int) + q + 1 + 2) ((q : Int) - 1).toNat 0 l3
  obtain ⟨l4, hl4⟩ : ∃ z, mkUps (((mkBegin l).length : Int) + q + 1 + 2) ((q : Int) - 1).toNat 0 l3 = z := ⟨_, rfl⟩
  rw [hl4] at e4 g4 h4 ⊢
  have m5 := many_at l4 1 0 u q
  obtain ⟨s5, h5⟩ := many_app l4 1 0 (q : Int) u
  have E1 : l1.length = l.length + 2 + q := by omega
  have E2 : l2.length = l.length + 3 + q := by omega
  have E3 : l3.length = l.length + 5 + q := by omega
  have E4 : l4.length = l.length + 4 + q + q := by omega
  have B : ((mkBegin l).length : Int) = (l.length : Int) + 2 := by omega
  -- the whole list, seen from each part
  have w4 : mkMany l4 1 0 (q : Int) u = l4 ++ s5 := h5
  have w3 : mkMany l4 1 0 (q : Int) u = l3 ++ (s4 ++ s5) := by rw [h5, h4, List.append_assoc]
  have w2 : mkMany l4 1 0 (q : Int) u = l2 ++ (s3 ++ (s4 ++ s5)) := by rw [w3, h3, List.append_assoc]
  have w1 : mkMany l4 1 0 (q : Int) u = l1 ++ ((⟨0, 1, ((mkBegin l).length : Int), 0⟩ : S45) :: (s3 ++ (s4 ++ s5))) := by rw [w2, ← hl2]; simp
  have w0 : mkMany l4 1 0 (q : Int) u = mkBegin l ++ (s1 ++ ((⟨0, 1, ((mkBegin l).length : Int), 0⟩ : S45) :: (s3 ++ (s4 ++ s5)))) := by rw [w1, h1, List.append_assoc]
  have hg := begin_get l (s1 ++ ((⟨0, 1, ((mkBegin l).length : Int), 0⟩ : S45) :: (s3 ++ (s4 ++ s5))))
  rw [← w0] at hg
  refine ⟨hg.1, hg.2, fun i hi => ?_, ?_, ?_, fun i hi => ?_, ?_⟩
  · have := g1 i (by omega)
    rw [w1, rdc_app l1 _ (by omega) (by omega)]
    rw [show (l.length : Int) + 2 + (i : Int) = (((mkBegin l).length + i : Nat) : Int) by omega, this, B]
    rw [Int.zero_add]
    congr 1
    · push_cast; omega
    · by_cases c : (i : Int) = 0
      · rw [if_pos c, if_pos c]; omega
      · rw [if_neg c, if_neg c]; omega
  · have := rdc_at l1 (s3 ++ (s4 ++ s5)) (⟨0, 1, ((mkBegin l).length : Int), 0⟩ : S45) (p := (l.length : Int) + 2 + q) (by omega)
    rw [w1, this, B]
  · have := m3.app (by omega) (by omega) (s4 ++ s5)
    rw [w3]
    rw [show (l2.length : Int) = (l.length : Int) + 3 + q by omega] at this
    exact this
  · have := g4 i (by omega)
    rw [w4, rdc_app l4 _ (by omega) (by omega)]
    rw [show (l.length : Int) + 5 + (q : Int) + (i : Int) = ((l3.length + i : Nat) : Int) by omega, this, B]
    congr 1
    omega
  · rw [show (l4.length : Int) = (l.length : Int) + 4 + q + q by omega] at m5
    exact m5
/-! Behind the second pass. -/
theorem fx_of {pts : List Int} {t : Int} (h : 0 ≤ t) : fx pts t = t := if_neg (by omega)
theorem MAt.fix {l r : List S45} {pts : List Int} {b f g t : Int} {m : Nat} (h : MAt l b f g m t) (hb : 0 ≤ b) (hr : ∀ p, b ≤ p → p ≤ b + m → rd_T45 r p = fixI pts (rd_T45 l p)) : MAt r b f g m (fx pts t) := by
  constructor
  · rw [hr b (Int.le_refl _) (by omega), h.d]
    show (⟨1, f, fx pts (b + 1), fx pts t⟩ : S45) = _
    rw [fx_of (by omega)]
  · intro i hi
    rw [hr _ (by omega) (by omega), h.i i hi]
    show (⟨0, g, fx pts _, fx pts 0⟩ : S45) = _
    rw [fx_of (t := 0) (by omega), fx_of (by dsimp only; split <;> omega)]
theorem IncAt.fix {l r : List S45} {pts : List Int} {a t : Int} {q : Nat} (h : IncAt l a q t) (ha : 0 ≤ a) (hr : ∀ p, a ≤ p → p ≤ a + 4 + q → rd_T45 r p = fixI pts (rd_T45 l p)) : IncAt r a q (fx pts t) := by
  have m1 := h.m1.fix (r := r) (pts := pts) (by omega) (fun p h0 h1 => hr p (by omega) (by omega))
  rw [fx_of (t := a + 3 + q) (by omega)] at m1
  refine ⟨?_, ?_, m1, h.m2.fix (by omega) (fun p h0 h1 => hr p (by omega) (by omega))⟩
  · rw [hr a (by omega) (by omega), h.b0]
    show (⟨0, 1, fx pts (a + 1), fx pts 0⟩ : S45) = _
    rw [fx_of (by omega), fx_of (by omega)]
  · rw [hr (a + 1) (by omega) (by omega), h.b1]
    show (⟨1, 1, fx pts (a + 2), fx pts (a + 2)⟩ : S45) = _
    rw [fx_of (by omega)]
theorem DecAt.fix {l r : List S45} {pts : List Int} {a t u : Int} {q : Nat} (h : DecAt l a q t u) (ha : 0 ≤ a) (hr : ∀ p, a ≤ p → p ≤ a + 4 + q + q + q → rd_T45 r p = fixI pts (rd_T45 l p)) : DecAt r a q (fx pts t) (fx pts u) := by
  refine ⟨?_, ?_, fun i hi => ?_, ?_, h.m1.fix (by omega) (fun p h0 h1 => hr p (by omega) (by omega)), fun i hi => ?_, h.m2.fix (by omega) (fun p h0 h1 => hr p (by omega) (by omega))⟩
  · rw [hr a (by omega) (by omega), h.b0]
    show (⟨0, 1, fx pts (a + 1), fx pts 0⟩ : S45) = _
    rw [fx_of (by omega), fx_of (by omega)]
  · rw [hr (a + 1) (by omega) (by omega), h.b1]
    show (⟨1, 1, fx pts (a + 2), fx pts (a + 2)⟩ : S45) = _
    rw [fx_of (by omega)]
  · rw [hr _ (by omega) (by omega), h.d i hi]
    show (⟨1, 0, fx pts _, fx pts _⟩ : S45) = _
    rw [fx_of (t := a + 2 + i + 1) (by omega), fx_of (by dsimp only; split <;> omega)]
  · rw [hr _ (by omega) (by omega), h.u]
    show (⟨0, 1, fx pts (a + 2), fx pts 0⟩ : S45) = _
    rw [fx_of (by omega), fx_of (by omega)]
  · rw [hr _ (by omega) (by omega), h.w i hi]
    show (⟨0, 0, fx pts _, fx pts 0⟩ : S45) = _
    rw [fx_of (t := 0) (by omega), fx_of (by dsimp only; omega)]
/-! Where an instruction's code lies. -/
theorem twoP_ext (code : List S45) (hc : ∀ x ∈ code, okO (code.length : Int) x) : ∀ (d i : Nat) (pts : List Int) (cd : List S45), i + d = code.length → ∃ s t, (twoP code d i pts cd).1 = pts ++ s ∧ (twoP code d i pts cd).2 = cd ++ t ∧ ∀ v ∈ s, (cd.length : Int) ≤ v := by
  intro d
  induction d with
  | zero => intro i pts cd hi; exact ⟨[], [], by simp [twoP], by simp [twoP], fun v hv => by cases hv⟩
  | succ d ih =>
    intro i pts cd hi
    have hx := hc _ (List.getElem_mem (show i < code.length by omega))
    rw [← rd45_nat code i (by omega)] at hx
    obtain ⟨y, s0, e0, -⟩ := gad_app cd (rd_T45 code (i : Int)) hx.1
    have hl := gad_len cd (rd_T45 code (i : Int)) hx
    obtain ⟨s, t, h1, h2, h3⟩ := ih (i + 1) (pts ++ [(cd.length : Int)]) (gad cd (rd_T45 code (i : Int))) (by omega)
    simp only [twoP]
    refine ⟨[(cd.length : Int)] ++ s, (y :: s0) ++ t, by rw [h1, List.append_assoc], by rw [h2, e0, List.append_assoc], fun v hv => ?_⟩
    rcases List.mem_append.1 hv with hv | hv
    · rw [List.mem_singleton] at hv
      omega
    · have := h3 v hv
      omega
theorem twoP_at (code : List S45) (hc : ∀ x ∈ code, okO (code.length : Int) x) : ∀ (d i : Nat) (pts : List Int) (cd : List S45), i + d = code.length → pts.length = i → ∀ j, i ≤ j → j < code.length → ∃ cj t, (twoP code d i pts cd).2 = gad cj (rd_T45 code (j : Int)) ++ t ∧ rd (twoP code d i pts cd).1 (j : Int) = (cj.length : Int) ∧ ∀ m, j < m → m < code.length → ((gad cj (rd_T45 code (j : Int))).length : Int) ≤ rd (twoP code d i pts cd).1 (m : Int) := by
  intro d
  induction d with
  | zero => intro i pts cd hi hp j h0 h1; omega
  | succ d ih =>
    intro i pts cd hi hp j h0 h1
    simp only [twoP]
    by_cases c : j = i
    · subst c
      obtain ⟨s, t, e1, e2, e3⟩ := twoP_ext code hc d (j + 1) (pts ++ [(cd.length : Int)]) (gad cd (rd_T45 code (j : Int))) (by omega)
      have hlen : (twoP code d (j + 1) (pts ++ [(cd.length : Int)]) (gad cd (rd_T45 code (j : Int)))).1.length = code.length := by
        have : ∀ (d i : Nat) (pts : List Int) (cd : List S45), i + d = code.length → pts.length = i → (twoP code d i pts cd).1.length = code.length := by
          intro d
          induction d with
          | zero => intro i pts cd hi hp; simp only [twoP]; omega
          | succ d ih => intro i pts cd hi hp; exact ih (i + 1) _ _ (by omega) (by simp [hp])
        exact this d (j + 1) _ _ (by omega) (by simp [hp])
      refine ⟨cd, t, e2, ?_, fun m hm hm2 => ?_⟩
      · rw [e1, rd_app_l _ s j (by simp; omega), rd_app_r pts _ j (by omega)]
      · rw [e1] at hlen ⊢
        rw [rd_nat _ m (by omega), List.getElem_append_right (by simp; omega)]
        exact e3 _ (List.getElem_mem _)
    · exact ih (i + 1) _ _ (by omega) (by simp [hp]) j (by omega) h1

def P6 : List Int := [2, 3, 5, 7, 11, 13]
theorem p6_ge {i : Nat} (h : i < 6) : 2 ≤ rd P6 (i : Int) ∧ rd P6 (i : Int) ≤ 13 := by
  rcases (by omega : i = 0 ∨ i = 1 ∨ i = 2 ∨ i = 3 ∨ i = 4 ∨ i = 5) with rfl | rfl | rfl | rfl | rfl | rfl <;> decide
def mulP (q : Int) : Nat → Int → Option Int
  | 0, n => some n
  | c + 1, n => if n > wrap64 (Int.tdiv (1152921504606846976 : Int) q) then none else mulP q c (wrap64 (n * q))
def encG (x : List Int) : Nat → Nat → Int → Option Int
  | 0, _, n => some n
  | d + 1, i, n => (mulP (rd P6 (i : Int)) (rd x (i : Int)).toNat n).bind (encG x d (i + 1))
def outR : Option Int → Int × Bool
  | none => (0, false)
  | some v => (v, true)
def okR (x : List Int) : Prop := 1 ≤ x.length ∧ x.length ≤ 6 ∧ ∀ v ∈ x, 0 ≤ v
theorem re_l1 (x : List Int) (i : Nat) (q : Int) (hq : q ≠ 0) (hx : i < x.length) (hR : rd x (i : Int) ≤ 9223372036854775807) (d : Nat) (hi : i ≤ 1000000000) (ih : ∀ n, Ev (fun k => standstillref08_Encode.l0 k x n ((i + 1 : Nat) : Int)) (outR (encG x d (i + 1) n))) : ∀ (c : Nat) (j : Int) (n : Int), 0 ≤ j → (rd x (i : Int) - j).toNat = c → Ev (fun k => standstillref08_Encode.l1 k x n (i : Int) q j) (outR ((mulP q c n).bind (encG x d (i + 1)))) := by
  intro c
  induction c with
  | zero =>
    intro j n hj hc
    rw [Ev_succ]
    simp only [standstillref08_Encode.l1]
    simp only [if_pos (show (0 : Int) ≤ (i : Int) by omega), if_pos (show (i : Int) < (x.length : Int) by omega), if_neg (show ¬ j < rd x (i : Int) by omega), mulP, Option.bind_some, cast_succ i hi]
    exact ih n
  | succ c ihc =>
    intro j n hj hc
    rw [Ev_succ]
    simp only [standstillref08_Encode.l1]
    simp only [if_pos (show (0 : Int) ≤ (i : Int) by omega), if_pos (show (i : Int) < (x.length : Int) by omega), if_pos (show j < rd x (i : Int) by omega), if_neg hq, mulP]
    by_cases hm : n > wrap64 (Int.tdiv (1152921504606846976 : Int) q)
    · simp only [if_pos hm, Option.bind_none]
      exact Ev.now _
    · simp only [if_neg hm]
      rw [wrap_id (x := j + 1) (by omega) (by omega)]
      exact ihc (j + 1) _ (by omega) (by omega)
theorem re_l0 (x : List Int) (hl : x.length ≤ 6) (hw : ∀ v ∈ x, (Lit.int .i64 v).wf = true) : ∀ (d i : Nat), i + d = x.length → ∀ n, Ev (fun k => standstillref08_Encode.l0 k x n (i : Int)) (outR (encG x d i n)) := by
  intro d
  induction d with
  | zero =>
    intro i hi n
    rw [Ev_succ]
    simp only [standstillref08_Encode.l0]
    simp only [if_neg (show ¬ (i : Int) < (x.length : Int) by omega), encG]
    exact Ev.now _
  | succ d ih =>
    intro i hi n
    rw [Ev_succ]
    have h6 : P6.length = 6 := rfl
    simp only [standstillref08_Encode.l0, standstillref08_primes.f, Option.bind_some]
    rw [show ([2, 3, 5, 7, 11, 13] : List Int) = P6 from rfl]
    simp only [if_pos (show (i : Int) < (x.length : Int) by omega), if_pos (show (0 : Int) ≤ (i : Int) by omega), if_pos (show (i : Int) < (P6.length : Int) by omega), encG]
    have hR : rd x (i : Int) ≤ 9223372036854775807 := by
      rw [rd_nat x i (by omega)]
      exact (wf_i64 (hw _ (List.getElem_mem _))).2
    have hp := p6_ge (i := i) (by omega)
    exact re_l1 x i (rd P6 (i : Int)) (by omega) (by omega) hR d (by omega) (fun n => ih (i + 1) (by omega) n) (rd x (i : Int)).toNat 0 n (by omega) (by omega)
theorem RefEncode_ev (x : List Int) (h : okR x) (hw : ∀ v ∈ x, (Lit.int .i64 v).wf = true) : Ev (fun k => standstillref08_Encode.f k x) (outR (encG x x.length 0 1)) := re_l0 x h.2.1 hw x.length 0 (by omega) 1
theorem Contents_l0 (x : List Int) (hl : x.length ≤ 1000000000) : ∀ (d i : Nat), i + d = x.length → ∀ b : Bool, (b = true ↔ (∀ j, i ≤ j → j < x.length → 0 ≤ rd x (j : Int)) ∧ 1 ≤ x.length ∧ x.length ≤ 6) → Ev (fun k => standstillref08_Contents.l0 k x (i : Int)) b := by
  intro d
  induction d with
  | zero =>
    intro i hi b hb
    rw [Ev_succ]
    simp only [standstillref08_Contents.l0]
    simp only [if_neg (show ¬ (i : Int) < (x.length : Int) by omega)]
    by_cases a : (x.length : Int) ≥ 1
    · simp only [if_pos a]
      have hv : (∀ j, i ≤ j → j < x.length → 0 ≤ rd x (j : Int)) := fun j h1 h2 => by omega
      by_cases c : (x.length : Int) ≤ 6
      · rw [decide_eq_true c, hb.2 ⟨hv, by omega, by omega⟩]
        exact Ev.now _
      · rw [decide_eq_false c]
        have : b = false := by
          cases b with
          | false => rfl
          | true => have := (hb.1 rfl).2.2; omega
        rw [this]
        exact Ev.now _
    · simp only [if_neg a]
      have : b = false := by
        cases b with
        | false => rfl
        | true => have := (hb.1 rfl).2.1; omega
      rw [this]
      exact Ev.now _
  | succ d ih =>
    intro i hi b hb
    rw [Ev_succ]
    simp only [standstillref08_Contents.l0]
    simp only [if_pos (show (i : Int) < (x.length : Int) by omega), if_pos (show (0 : Int) ≤ (i : Int) by omega), cast_succ i (by omega)]
    by_cases a : rd x (i : Int) < 0
    · simp only [if_pos a]
      have : b = false := by
        cases b with
        | false => rfl
        | true => have := (hb.1 rfl).1 i (Nat.le_refl _) (by omega); omega
      rw [this]
      exact Ev.now _
    · simp only [if_neg a]
      refine ih (i + 1) (by omega) b (hb.trans ⟨fun h => ⟨fun j h1 h2 => h.1 j (by omega) h2, h.2⟩, fun h => ⟨fun j h1 h2 => ?_, h.2⟩⟩)
      by_cases e : j = i
      · subst e; omega
      · exact h.1 j (by omega) h2
theorem Contents_ev (x : List Int) (hl : x.length ≤ 1000000000) : (okR x → Ev (fun k => standstillref08_Contents.f k x) true) ∧ (¬ okR x → Ev (fun k => standstillref08_Contents.f k x) false) := by
  have key : okR x ↔ ((∀ j, 0 ≤ j → j < x.length → 0 ≤ rd x (j : Int)) ∧ 1 ≤ x.length ∧ x.length ≤ 6) := by
    constructor
    · rintro ⟨h1, h2, h3⟩
      exact ⟨fun j _ hj => by rw [rd_nat x j hj]; exact h3 _ (List.getElem_mem _), h1, h2⟩
    · rintro ⟨h1, h2, h3⟩
      refine ⟨h2, h3, fun v hv => ?_⟩
      obtain ⟨j, hj, rfl⟩ := List.getElem_of_mem hv
      rw [← rd_nat x j hj]
      exact h1 j (Nat.zero_le _) hj
  exact ⟨fun ho => Contents_l0 x hl x.length 0 (by omega) true ⟨fun _ => key.1 ho, fun _ => rfl⟩, fun ho => Contents_l0 x hl x.length 0 (by omega) false ⟨fun e => (Bool.noConfusion e), fun h => absurd (key.2 h) ho⟩⟩
theorem mulP_some {q : Int} (hq : 2 ≤ q) (hq2 : q ≤ 13) : ∀ (c : Nat) (n v : Int), 1 ≤ n → n ≤ 1152921504606846976 → mulP q c n = some v → v = n * q ^ c ∧ n * 2 ^ c ≤ v ∧ v ≤ 1152921504606846976 := by
  intro c
  induction c with
  | zero =>
    intro n v h1 h2 h
    obtain rfl := Option.some.inj h
    simp
    exact h2
  | succ c ih =>
    intro n v h1 h2 h
    simp only [mulP] at h
    rw [Int.tdiv_eq_ediv_of_nonneg (by decide)] at h
    have hdlo : 0 ≤ (1152921504606846976 : Int) / q := Int.ediv_nonneg (by decide) (by omega)
    have hdhi : (1152921504606846976 : Int) / q ≤ 1152921504606846976 := Int.ediv_le_self _ (by decide)
    rw [wrap_id (by omega) (by omega)] at h
    by_cases hm : n > (1152921504606846976 : Int) / q
    · rw [if_pos hm] at h
      cases h
    rw [if_neg hm] at h
    have hle : n * q ≤ 1152921504606846976 := Int.mul_le_of_le_ediv (by omega) (by omega)
    have hge : n * 2 ≤ n * q := Int.mul_le_mul_of_nonneg_left hq (by omega)
    rw [wrap_id (by omega) (by omega)] at h
    obtain ⟨e1, e2, e3⟩ := ih (n * q) v (by omega) hle h
    refine ⟨?_, ?_, e3⟩
    · rw [e1, Int.pow_succ, Int.mul_assoc, Int.mul_comm q]
    · have hp : (0 : Int) ≤ 2 ^ c := Int.le_of_lt (Int.pow_pos (by decide))
      have := Int.mul_le_mul_of_nonneg_right hge hp
      rw [Int.pow_succ, Int.mul_comm (2 ^ c) 2, ← Int.mul_assoc]
      exact Int.le_trans this e2
def prodG (x : List Int) : Nat → Nat → Int
  | 0, _ => 1
  | d + 1, i => rd P6 (i : Int) ^ (rd x (i : Int)).toNat * prodG x d (i + 1)
theorem pow_60 {c : Nat} (h : (2 : Int) ^ c ≤ 1152921504606846976) : c ≤ 60 := by
  by_cases hc : c ≤ 60
  · exact hc
  · exfalso
    obtain ⟨k, rfl⟩ : ∃ k, c = 61 + k := ⟨c - 61, by omega⟩
    rw [Int.pow_add] at h
    have h1 : (1 : Int) ≤ 2 ^ k := Int.pow_pos (by decide)
    have h2 : (2 : Int) ^ 61 = 2305843009213693952 := by decide
    rw [h2] at h
    omega
theorem encG_some (x : List Int) : ∀ (d i : Nat) (n v : Int), i + d ≤ 6 → 1 ≤ n → n ≤ 1152921504606846976 → encG x d i n = some v → v = n * prodG x d i ∧ n ≤ v ∧ v ≤ 1152921504606846976 ∧ ∀ j, i ≤ j → j < i + d → (rd x (j : Int)).toNat ≤ 60 := by
  intro d
  induction d with
  | zero =>
    intro i n v hi h1 h2 h
    obtain rfl := Option.some.inj h
    refine ⟨by simp [prodG], Int.le_refl _, h2, fun j h3 h4 => by omega⟩
  | succ d ih =>
    intro i n v hi h1 h2 h
    simp only [encG] at h
    obtain ⟨m, hm, h⟩ := Option.bind_eq_some_iff.1 h
    have hp := p6_ge (i := i) (by omega)
    obtain ⟨e1, e2, e3⟩ := mulP_some hp.1 hp.2 _ n m h1 h2 hm
    have h2p : (1 : Int) ≤ 2 ^ (rd x (i : Int)).toNat := Int.pow_pos (by decide)
    have hnm : n ≤ m := by
      have := Int.mul_le_mul_of_nonneg_left h2p (show 0 ≤ n by omega)
      omega
    obtain ⟨f1, f2, f3, f4⟩ := ih (i + 1) m v (by omega) (by omega) e3 h
    refine ⟨?_, Int.le_trans hnm f2, f3, fun j h3 h4 => ?_⟩
    · rw [f1, e1]
      simp only [prodG]
      rw [Int.mul_assoc]
    · by_cases e : j = i
      · subst e
        refine pow_60 ?_
        have : (2 : Int) ^ (rd x (j : Int)).toNat ≤ n * 2 ^ (rd x (j : Int)).toNat := by
          have := Int.mul_le_mul_of_nonneg_right h1 (show (0 : Int) ≤ 2 ^ (rd x (j : Int)).toNat by omega)
          omega
        omega
      · exact f4 j (by omega) (by omega)
theorem nd_pow {q p : Int} (h : ∀ x : Int, x % q ≠ 0 → (x * p) % q ≠ 0) : ∀ (c : Nat) (x : Int), x % q ≠ 0 → (p ^ c * x) % q ≠ 0 := by
  intro c
  induction c with
  | zero => intro x hx; simpa using hx
  | succ c ih =>
    intro x hx
    have := h _ (ih x hx)
    rw [show p ^ (c + 1) * x = p ^ c * x * p by rw [Int.pow_succ, Int.mul_assoc, Int.mul_comm p x, ← Int.mul_assoc]]
    exact this
theorem prodG_pos (x : List Int) : ∀ (d i : Nat), i + d ≤ 6 → 1 ≤ prodG x d i := by
  intro d
  induction d with
  | zero => intro i h; exact Int.le_refl _
  | succ d ih =>
    intro i h
    simp only [prodG]
    have hp := p6_ge (i := i) (by omega)
    have h1 : (1 : Int) ≤ rd P6 (i : Int) ^ (rd x (i : Int)).toNat := Int.pow_pos (by omega)
    have h2 := ih (i + 1) (by omega)
    have := Int.mul_le_mul_of_nonneg_left h2 (show 0 ≤ rd P6 (i : Int) ^ (rd x (i : Int)).toNat by omega)
    omega

theorem nd6n {a b : Nat} (hab : a ≠ b) (ha : a < 6) (hb : b < 6) : ∀ x : Int, x % rd P6 (a : Int) ≠ 0 → (x * rd P6 (b : Int)) % rd P6 (a : Int) ≠ 0 := by
  have r0 : rd P6 ((0 : Nat) : Int) = 2 := rfl
  have r1 : rd P6 ((1 : Nat) : Int) = 3 := rfl
  have r2 : rd P6 ((2 : Nat) : Int) = 5 := rfl
  have r3 : rd P6 ((3 : Nat) : Int) = 7 := rfl
  have r4 : rd P6 ((4 : Nat) : Int) = 11 := rfl
  have r5 : rd P6 ((5 : Nat) : Int) = 13 := rfl
  intro x
  rcases (by omega : a = 0 ∨ a = 1 ∨ a = 2 ∨ a = 3 ∨ a = 4 ∨ a = 5) with rfl | rfl | rfl | rfl | rfl | rfl <;>
  rcases (by omega : b = 0 ∨ b = 1 ∨ b = 2 ∨ b = 3 ∨ b = 4 ∨ b = 5) with rfl | rfl | rfl | rfl | rfl | rfl <;>
  first
    | exact absurd rfl hab
    | (simp only [r0, r1, r2, r3, r4, r5]; omega)
theorem rd_setN (x : List Int) (j k : Nat) (v : Int) (hk : k < x.length) : rd (x.set j v) (k : Int) = if j = k then v else rd x (k : Int) := by
  rw [rd_nat _ k (by rw [List.length_set]; exact hk), List.getElem_set]
  split
  · rfl
  · rw [rd_nat x k hk]
theorem prodG_out (x : List Int) (j : Nat) (v : Int) : ∀ (d i : Nat), j < i → i + d ≤ x.length → prodG (x.set j v) d i = prodG x d i := by
  intro d
  induction d with
  | zero => intro i h0 h1; rfl
  | succ d ih =>
    intro i h0 h1
    simp only [prodG]
    rw [ih (i + 1) (by omega) (by omega), rd_setN x j i v (by omega), if_neg (by omega)]
theorem prodG_inc (x : List Int) (j : Nat) (hx : 0 ≤ rd x (j : Int)) : ∀ (d i : Nat), i ≤ j → j < i + d → i + d ≤ x.length → prodG (x.set j (rd x (j : Int) + 1)) d i = prodG x d i * rd P6 (j : Int) := by
  intro d
  induction d with
  | zero => intro i h0 h1; omega
  | succ d ih =>
    intro i h0 h1 h2
    simp only [prodG]
    rw [rd_setN x j i _ (by omega)]
    by_cases c : j = i
    · subst c
      rw [if_pos rfl, prodG_out x j _ d (j + 1) (by omega) (by omega)]
      rw [show (rd x (j : Int) + 1).toNat = (rd x (j : Int)).toNat + 1 by omega, Int.pow_succ]
      rw [Int.mul_assoc, Int.mul_comm (rd P6 (j : Int)), ← Int.mul_assoc]
    · rw [if_neg c, ih (i + 1) (by omega) (by omega) (by omega), Int.mul_assoc]
theorem prodG_zero (x : List Int) (j : Nat) (hj : j < 6) (hx : rd x (j : Int) = 0) : ∀ (d i : Nat), i + d ≤ 6 → prodG x d i % rd P6 (j : Int) ≠ 0 := by
  intro d
  induction d with
  | zero =>
    intro i h
    simp only [prodG]
    have hp := p6_ge hj
    rw [Int.emod_eq_of_lt (by decide) (by omega)]
    decide
  | succ d ih =>
    intro i h
    simp only [prodG]
    by_cases c : j = i
    · subst c
      rw [hx]
      simp only [Int.toNat_zero, Int.pow_zero, Int.one_mul]
      exact ih (j + 1) (by omega)
    · exact nd_pow (nd6n c hj (by omega)) _ _ (ih (i + 1) (by omega))
theorem enc_val {x : List Int} (hl : x.length ≤ 6) {n : Int} (h : encG x x.length 0 1 = some n) : n = prodG x x.length 0 ∧ 1 ≤ n := by
  obtain ⟨e1, e2, -, -⟩ := encG_some x x.length 0 1 n (by omega) (by decide) (by decide) h
  rw [Int.one_mul] at e1
  exact ⟨e1, e2⟩
/-- What a step does to the encoding. -/
theorem enc_inc {x : List Int} (hl : x.length ≤ 6) {j : Nat} (hj : j < x.length) (hx : 0 ≤ rd x (j : Int)) {n m : Int} (hn : encG x x.length 0 1 = some n) (hm : encG (x.set j (rd x (j : Int) + 1)) x.length 0 1 = some m) : m = n * rd P6 (j : Int) ∧ 1 ≤ n := by
  obtain ⟨e1, e2⟩ := enc_val hl hn
  have hl' : (x.set j (rd x (j : Int) + 1)).length = x.length := List.length_set ..
  obtain ⟨f1, f2⟩ := enc_val (x := x.set j (rd x (j : Int) + 1)) (by omega) (by rw [hl']; exact hm)
  rw [hl', prodG_inc x j hx x.length 0 (by omega) (by omega) (by omega), ← e1] at f1
  exact ⟨f1, e2⟩
theorem enc_dec {x : List Int} (hl : x.length ≤ 6) {j : Nat} (hj : j < x.length) (hx : 1 ≤ rd x (j : Int)) {n m : Int} (hn : encG x x.length 0 1 = some n) (hm : encG (x.set j (rd x (j : Int) - 1)) x.length 0 1 = some m) : n = m * rd P6 (j : Int) ∧ 1 ≤ m := by
  have hl' : (x.set j (rd x (j : Int) - 1)).length = x.length := List.length_set ..
  have hr : rd (x.set j (rd x (j : Int) - 1)) (j : Int) = rd x (j : Int) - 1 := by rw [rd_setN x j j _ hj, if_pos rfl]
  have hs : (x.set j (rd x (j : Int) - 1)).set j (rd (x.set j (rd x (j : Int) - 1)) (j : Int) + 1) = x := by
    rw [hr, List.set_set, show rd x (j : Int) - 1 + 1 = rd x (j : Int) by omega, rd_nat x j hj]
    simp
  refine enc_inc (x := x.set j (rd x (j : Int) - 1)) (by omega) (by omega) (by rw [hr]; omega) (by rw [hl']; exact hm) ?_
  rw [hs, hl']
  exact hn
theorem enc_zero {x : List Int} (hl : x.length ≤ 6) {j : Nat} (hj : j < x.length) (hx : rd x (j : Int) = 0) {n : Int} (hn : encG x x.length 0 1 = some n) : n % rd P6 (j : Int) ≠ 0 ∧ 1 ≤ n := by
  obtain ⟨e1, e2⟩ := enc_val hl hn
  rw [e1] at e2 ⊢
  exact ⟨prodG_zero x j (by omega) hx x.length 0 (by omega), e2⟩
/-- A step of the old machine is a run of the new one, from point to point. -/
theorem sim {R : Int} {l : List S45} (hC : okC R l = true) (hR : R ≤ 6) {pts : List Int} {cd r : List S45} (hpt : pts = (twoP l l.length 0 [] []).1) (hcd : cd = (twoP l l.length 0 [] []).2) (hrl : r.length = cd.length) (hr : ∀ j, j < r.length → rd_T45 r (j : Int) = fixI pts (rd_T45 cd (j : Int))) {p : Int} {x : List Int} (ok : okS R l p x) (hh : (rd_T45 l p).f0 ≠ 2) {p' : Int} {x' : List Int} (hc : cst l p x = some (p', x')) {n m : Int} (hn : encG x x.length 0 1 = some n) (hm : encG x' x.length 0 1 = some m) (n5 : n ≤ 5000) (m5 : m ≤ 5000) : ∃ t : Nat, Un r pts t (rd pts p) [n, 0] (rd pts p') [m, 0] ∧ (t : Int) ≤ 100 + 100 * mx n m := by
  obtain ⟨i, rfl⟩ := Int.eq_ofNat_of_zero_le ok.1
  have hi : i < l.length := by have := ok.2.1; omega
  have hO := okO_of hC hR
  have H := isTwo hC hR
  rw [← hpt, ← hcd] at H
  have hlen := H.inv.len
  obtain ⟨cj, t, e1, e2, e3⟩ := twoP_at l hO l.length 0 [] [] (by omega) rfl i (Nat.zero_le _) hi
  rw [← hpt] at e2 e3
  rw [← hcd] at e1
  have up : ∀ a b : Nat, a < b → b < l.length → rd pts (a : Int) < rd pts (b : Int) := by
    intro a b hab
    induction b with
    | zero => omega
    | succ b ih =>
      intro hb
      have h1 := H.inv.up b (by omega)
      by_cases c : a = b
      · subst c; exact h1
      · exact Int.lt_trans (ih (by omega) (by omega)) h1
  have hnot : ∀ v, rd pts (i : Int) < v → v < ((gad cj (rd_T45 l (i : Int))).length : Int) → v ∉ pts := by
    intro v h1 h2 hv
    obtain ⟨k, hk, rfl⟩ := List.getElem_of_mem hv
    rw [← rd_nat pts k hk] at h1 h2
    by_cases a : k = i
    · subst a; omega
    by_cases b : k < i
    · have := up k i b hi
      omega
    · have := e3 k (by omega) (by omega)
      omega
  have hcode : ∀ v, 0 ≤ v → v < ((gad cj (rd_T45 l (i : Int))).length : Int) → rd_T45 r v = fixI pts (rd_T45 (gad cj (rd_T45 l (i : Int))) v) := by
    intro v h0 h1
    obtain ⟨k, rfl⟩ := Int.eq_ofNat_of_zero_le h0
    have : (gad cj (rd_T45 l (i : Int))).length ≤ cd.length := by rw [e1]; simp
    rw [hr k (by omega), e1, rdc_app _ _ (by omega) h1]
  have hmem : ∀ v : Int, 0 ≤ v → v < (l.length : Int) → fx pts (-1 - v) = rd pts v ∧ rd pts v ∈ pts := by
    intro v h0 h1
    unfold fx
    rw [if_pos (by omega), show -1 - (-1 - v) = v by omega]
    obtain ⟨k, rfl⟩ := Int.eq_ofNat_of_zero_le h0
    refine ⟨rfl, ?_⟩
    rw [rd_nat pts k (by omega)]
    exact List.getElem_mem _
  have hxl : (x.length : Int) = R := ok.2.2.1
  have hlx : x.length ≤ 6 := by omega
  rw [e2] at hnot ⊢
  generalize hx : rd_T45 l (i : Int) = X at *
  rcases inst_ok hC ok.1 ok.2.1 with a | ⟨a0, a1, a2, a3, a4, a5⟩ | ⟨a0, a1, a2, a3, a4, a5, a6⟩
  · rw [hx] at a
    exact absurd a.1 hh
  · rw [hx] at a0 a1 a2 a3 a4 a5
    unfold cst at hc
    rw [hx, if_pos a0] at hc
    have hrb := rd_ok ok.2.2.2 a1 (by omega)
    by_cases c : rd x X.f1 = 1152921504606846976
    · rw [if_pos c] at hc
      cases hc
    rw [if_neg c] at hc
    simp only [Option.some.injEq, Prod.mk.injEq] at hc
    obtain ⟨rfl, rfl⟩ := hc
    obtain ⟨j, hj⟩ := Int.eq_ofNat_of_zero_le a1
    rw [hj, Int.toNat_natCast] at hm
    rw [hj] at hrb
    obtain ⟨v1, v2⟩ := enc_inc hlx (by omega) hrb.1 hn hm
    have hp := p6_ge (i := j) (by omega)
    obtain ⟨q, hq⟩ := Int.eq_ofNat_of_zero_le (show 0 ≤ rd P6 (j : Int) by omega)
    have hg : gad cj X = mkInc cj (q : Int) (-1 - X.f2) := by
      unfold gad
      rw [if_pos a0, hj, show ([2, 3, 5, 7, 11, 13] : List Int) = P6 from rfl, hq]
    have hgl := mkInc_length cj (q : Int) (-1 - X.f2)
    rw [hg] at hnot hcode
    have hat := (inc_at cj q (-1 - X.f2)).fix (r := r) (pts := pts) (by omega) (fun p h0 h1 => hcode p (by omega) (by omega))
    obtain ⟨w1, w2⟩ := hmem X.f2 a3 a4
    rw [w1] at hat
    obtain ⟨c, rfl⟩ := Int.eq_ofNat_of_zero_le (show 0 ≤ n by omega)
    rw [hq] at v1 hp
    have hcq : ((c * q : Nat) : Int) = m := by rw [v1]; push_cast; rfl
    have hrun := inc_run hat (by omega) (fun p h0 h1 => hnot p h0 (by omega)) w2 c (by omega)
    rw [hcq] at hrun
    refine ⟨_, hrun, ?_⟩
    have e : c * (q + 1) = c * q + c := by rw [Nat.mul_add, Nat.mul_one]
    rw [e]
    unfold mx
    split <;> omega
  · rw [hx] at a0 a1 a2 a3 a4 a5 a6
    have a0' : ¬ X.f0 = 0 := by omega
    unfold cst at hc
    rw [hx, if_neg a0'] at hc
    have hrb := rd_ok ok.2.2.2 a1 (by omega)
    obtain ⟨j, hj⟩ := Int.eq_ofNat_of_zero_le a1
    have hp := p6_ge (i := j) (by omega)
    obtain ⟨q, hq⟩ := Int.eq_ofNat_of_zero_le (show 0 ≤ rd P6 (j : Int) by omega)
    have hg : gad cj X = mkDec cj (q : Int) (-1 - X.f2) (-1 - X.f3) := by
      unfold gad
      rw [if_neg a0', if_pos a0, hj, show ([2, 3, 5, 7, 11, 13] : List Int) = P6 from rfl, hq]
    have hgl := mkDec_length cj (q : Int) (-1 - X.f2) (-1 - X.f3) (by omega)
    rw [hg] at hnot hcode
    have hat := (dec_at cj q (by omega) (-1 - X.f2) (-1 - X.f3)).fix (r := r) (pts := pts) (by omega) (fun p h0 h1 => hcode p (by omega) (by omega))
    obtain ⟨w1, w2⟩ := hmem X.f2 a3 a4
    obtain ⟨w3, w4⟩ := hmem X.f3 a5 a6
    rw [w1, w3] at hat
    have hN : ∀ p, (cj.length : Int) < p → p ≤ (cj.length : Int) + 4 + q + q + q → p ∉ pts := fun p h0 h1 => hnot p h0 (by omega)
    rw [hj] at hc hrb
    rw [Int.toNat_natCast] at hc
    by_cases c : rd x (j : Int) = 0
    · rw [if_pos c] at hc
      simp only [Option.some.injEq, Prod.mk.injEq] at hc
      obtain ⟨rfl, rfl⟩ := hc
      obtain ⟨v1, v2⟩ := enc_zero hlx (by omega) c hn
      have hnm : n = m := Option.some.inj (hn.symm.trans hm)
      subst hnm
      obtain ⟨N, rfl⟩ := Int.eq_ofNat_of_zero_le (show 0 ≤ n by omega)
      rw [hq] at v1
      have hmod : N % q ≠ 0 := fun e => v1 (by rw [← Int.natCast_emod, e]; rfl)
      have hdm : q * (N / q) + N % q = N := Nat.div_add_mod N q
      have hlt : N % q < q := Nat.mod_lt _ (by omega)
      have hle : N / q ≤ N := Nat.div_le_self _ _
      have hcomm : N / q * q = q * (N / q) := Nat.mul_comm _ _
      have hrun := dec_not hat (by omega) hN w4 (N / q) (N % q) (by omega) hlt (by omega) (by omega) (by omega)
      rw [show N / q * q + N % q = N by omega] at hrun
      refine ⟨_, hrun, ?_⟩
      have e : N / q * (q + 1) = N / q * q + N / q := by rw [Nat.mul_add, Nat.mul_one]
      rw [e]
      unfold mx
      split <;> omega
    · rw [if_neg c] at hc
      simp only [Option.some.injEq, Prod.mk.injEq] at hc
      obtain ⟨rfl, rfl⟩ := hc
      obtain ⟨v1, v2⟩ := enc_dec hlx (by omega) (by omega) hn hm
      obtain ⟨M, rfl⟩ := Int.eq_ofNat_of_zero_le (show 0 ≤ m by omega)
      rw [hq] at v1
      have hcq : ((M * q : Nat) : Int) = n := by rw [v1]; push_cast; rfl
      have hrun := dec_run hat (by omega) hN w2 M (by omega)
      rw [hcq] at hrun
      refine ⟨_, hrun, ?_⟩
      have e : M * (q + 1) = M * q + M := by rw [Nat.mul_add, Nat.mul_one]
      rw [e]
      unfold mx
      split <;> omega

theorem two_valid {R : Int} {l : List S45} (h : okC R l = true) (hR : R ≤ 6) {r : List S45} (hl : r.length ≤ 2000) (hrl : r.length = (twoP l l.length 0 [] []).2.length) (hr : ∀ j, j < r.length → rd_T45 r (j : Int) = fixI (twoP l l.length 0 [] []).1 (rd_T45 (twoP l l.length 0 [] []).2 (j : Int))) : okC 2 r = true := by
  have H := isTwo h hR
  have hp := H.inv.len
  have h1 := (okC_true h).2.2.1
  have hge := twoP_len l (okO_of h hR) l.length 0 [] [] (by omega)
  refine okC_mk ⟨by decide, by decide, by simp at hge; omega, hl, fun x hx => ?_⟩
  obtain ⟨j, hj, rfl⟩ := List.getElem_of_mem hx
  have e := hr j hj
  rw [rd45_nat r j hj] at e
  rw [e]
  have hpre := H.pre _ (List.getElem_mem (show j < (twoP l l.length 0 [] []).2.length by omega))
  rw [← rd45_nat _ j (by omega)] at hpre
  have hrng : ∀ i, i < (twoP l l.length 0 [] []).1.length → 0 ≤ rd (twoP l l.length 0 [] []).1 (i : Int) ∧ rd (twoP l l.length 0 [] []).1 (i : Int) < ((twoP l l.length 0 [] []).2.length : Int) := fun i hi => H.inv.rng i (by omega)
  have F := fun t ht => fx_rng (n := (l.length : Int)) (L := ((twoP l l.length 0 [] []).2.length : Int)) (pts := (twoP l l.length 0 [] []).1) (by omega) hrng (t := t) ht
  rw [← hrl] at F
  rw [← hrl] at hpre
  have z0 : fx (twoP l l.length 0 [] []).1 0 = 0 := if_neg (by decide)
  unfold okI fixI
  rcases hpre with hx | ⟨a, b, c, d, e⟩ | ⟨a, b, c, d, e⟩
  · rw [hx]
    exact .inl ⟨rfl, rfl, z0, z0⟩
  · have := F _ d
    rw [e, z0]
    exact .inr (.inl ⟨a, b, c, this.1, this.2, rfl⟩)
  · have f1 := F _ d
    have f2 := F _ e
    exact .inr (.inr ⟨a, b, c, f1.1, f1.2, f2.1, f2.2⟩)
/-- What Two answers. -/
theorem Two_ev (R : Int) (l : List S45) (hb : l.length * 32 ≤ 140737488351232) (hl : l.length ≤ 4000) : Ev (fun k => pair_Two.f k R l) (if okC R l = true then (if 6 < R then (0, [], [], 2) else if 2000 < (twoP l l.length 0 [] []).2.length then (0, [], [], 4) else (2, (twoFix (twoP l l.length 0 [] []).1 (twoP l l.length 0 [] []).2.length 0 (twoP l l.length 0 [] []).2).getD [], (twoP l l.length 0 [] []).1, 0)) else (0, [], [], 1)) := by
  unfold pair_Two.f
  simp only [if_pos (show l.length ≤ 100000000 by omega)]
  rw [Ev_bind (counter_Valid_ev R l hb)]
  by_cases hc : okC R l = true
  · simp only [hc, if_true]
    by_cases h6 : 6 < R
    · simp only [if_pos h6]
      exact Ev.now _
    · simp only [if_neg h6]
      have hg := twoGo_eq l (okO_of hc (by omega)) (okC_true hc).2.2.2.1 l.length 0 [] [] (by omega) (by simp) rfl
      rw [show twoGo l l.length 0 [] [] = some (twoP l l.length 0 [] []) from hg.1]
      simp only [Option.bind_some]
      by_cases h2 : 2000 < (twoP l l.length 0 [] []).2.length
      · simp only [if_pos h2]
        exact Ev.now _
      · simp only [if_neg h2]
        obtain ⟨r, e, -⟩ := two_fix hc (by omega) (.inr (by omega))
        rw [e]
        simp only [Option.bind_some, Option.getD_some]
        exact Ev.now _
  · simp only [hc, Bool.false_eq_true, if_false]
    exact Ev.now _

theorem regs_len {R : Int} {l : List S45} {p : Int} {r : List Int} (hC : okC R l = true) (h : okS R l p r) : r.length ≤ 100000 := by
  have h1 := (okC_true hC).2.1
  have h2 := h.2.2.1
  omega
theorem wf_mk {v : Int} (h0 : -9223372036854775808 ≤ v) (h1 : v ≤ 9223372036854775807) : (Lit.int .i64 v).wf = true := by
  simp only [Lit.wf, IntKind.min, IntKind.max, IntKind.signed, IntKind.bits, Bool.and_eq_true, decide_eq_true_eq, if_true]
  omega
theorem pgo_ok (cl : Int) (pts : List Int) (hr : ∀ j, j < pts.length → 0 ≤ rd pts (j : Int) ∧ rd pts (j : Int) < cl) (hu : ∀ j, j + 1 < pts.length → rd pts (j : Int) < rd pts ((j + 1 : Nat) : Int)) : ∀ (d i : Nat), i + d = pts.length → pgo cl pts d (i : Int) = true := by
  intro d
  induction d with
  | zero => intro i hi; rfl
  | succ d ih =>
    intro i hi
    have h1 := hr i (by omega)
    have ih := ih (i + 1) (by omega)
    rw [show (((i + 1 : Nat)) : Int) = (i : Int) + 1 by push_cast; rfl] at ih
    simp only [pgo]
    rw [if_neg (by omega), if_neg (by omega)]
    by_cases c : (0 : Int) < (i : Int)
    · obtain ⟨m, rfl⟩ : ∃ m, i = m + 1 := ⟨i - 1, by omega⟩
      have h2 := hu m (by omega)
      rw [if_pos c, show (((m + 1 : Nat)) : Int) - 1 = (m : Int) by push_cast; omega, if_neg (by omega)]
      exact ih
    · rw [if_neg c]
      exact ih
theorem un_pos {l : List S45} {pts : List Int} {t : Nat} {p p' : Int} {r r' : List Int} (u : Un l pts t p r p' r') : 1 ≤ t := by
  cases u <;> omega
theorem un_crunE {R : Int} {l : List S45} (hC : okC R l = true) {pts : List Int} {t : Nat} {p p' : Int} {r r' : List Int} (u : Un l pts t p r p' r') : okS R l p r → ∀ (d : Nat) (i : Int), t ≤ d → crunE (fun a => some (decide (a ∈ pts))) l d p r i = some (p', r', i + (t : Int), true, true) := by
  induction u with
  | last hh hc hm =>
    intro ok d i hd
    obtain ⟨e, rfl⟩ : ∃ e, d = e + 1 := ⟨d - 1, by omega⟩
    rw [crunE_succ hC _ ok, if_neg hh, hc]
    simp only [Option.bind_some, decide_eq_true hm, if_true]
    rfl
  | step hh hc hm _ ih =>
    intro ok d i hd
    obtain ⟨e, rfl⟩ : ∃ e, d = e + 1 := ⟨d - 1, by omega⟩
    rw [crunE_succ hC _ ok, if_neg hh, hc]
    simp only [Option.bind_some, decide_eq_false hm, Bool.false_eq_true, if_false]
    rcases cst_ok hC ok hh with e1 | ⟨p2, r2, e1, ho⟩
    · rw [e1] at hc; cases hc
    · rw [e1] at hc
      simp only [Option.some.injEq, Prod.mk.injEq] at hc
      obtain ⟨rfl, rfl⟩ := hc
      rw [ih ho e (i + 1) (by omega)]
      congr 3
      congr 1
      push_cast
      omega
theorem Until_ok {R : Int} {l : List S45} {p : Int} {r : List Int} (hb : l.length * 32 ≤ 140737488351232) (hC : okC R l = true) (h : okS R l p r) {pts : List Int} (hp : pts.length ≤ 4000) (hg : pgo (l.length : Int) pts pts.length 0 = true) {t : Nat} {p' : Int} {r' : List Int} (u : Un l pts t p r p' r') {n : Int} (h1 : (t : Int) ≤ n) (h2 : n ≤ 1000000) : Ev (fun k => counter_Until.f k R l p r pts n) (p', r', (t : Int), 0) := by
  have hF := counter_Fits_ev R l p r hb
  rw [okF_of hC h] at hF
  have hlen := regs_len hC h
  have ht := un_pos u
  obtain ⟨N, rfl⟩ := Int.eq_ofNat_of_zero_le (show 0 ≤ n by omega)
  have hz := un_crunE hC u h N 0 (by omega)
  have hE := crunE_ev hC (fun k at_ => (slices_BinarySearch_int_int.f k pts at_).map (·.2)) (fun a => decide (a ∈ pts)) (fun a => bs_ev pts a (pgo_rising hg) (by omega)) N p r 0 _ h hz
  unfold counter_Until.f
  simp only [Ev_ite, Ev_none]
  rw [if_pos (by omega), Ev_bind hF]
  simp only [if_true, if_pos hg, Int.toNat_natCast]
  simp only [Ev_ite, Ev_none]
  rw [if_neg (by omega), if_neg (by omega), if_pos (by omega), Ev_bind hE]
  simp only [if_true, Int.zero_add]
  exact Ev.now _
def outS (l : List S45) (p : Int) (r : List Int) : Int × List Int × Int := if (rd_T45 l p).f0 = 2 then (0, [], 5) else match cst l p r with | none => (0, [], 4) | some s => (s.1, s.2, 0)
theorem Step_ev {R : Int} {l : List S45} {p : Int} {r : List Int} (hb : l.length * 32 ≤ 140737488351232) (hC : okC R l = true) (h : okS R l p r) : Ev (fun k => counter_Step.f k R l p r) (outS l p r) := by
  have hF := counter_Fits_ev R l p r hb
  rw [okF_of hC h] at hF
  have hlen := regs_len hC h
  unfold counter_Step.f outS
  simp only [if_pos (show r.length < 17592186044416 by omega)]
  have hc : crun l 1 p r 0 = _ := crun_succ hC h 0 0
  rw [Ev_bind hF]
  by_cases hh : (rd_T45 l p).f0 = 2
  · simp only [if_true, if_pos (And.intro h.1 h.2.1), if_pos hh]
    exact Ev.now _
  · rcases cst_ok hC h hh with e | ⟨p1, r1, e, ho⟩
    · simp only [if_neg hh, e] at hc
      simp only [if_true, if_pos (And.intro h.1 h.2.1), if_neg hh, hc, e, Option.bind_some, Bool.false_eq_true, if_false]
      exact Ev.now _
    · simp only [if_neg hh, e] at hc
      replace hc : crun l 1 p r 0 = some (p1, r1, 0 + 1, true) := hc.trans rfl
      simp only [if_true, if_pos (And.intro h.1 h.2.1), if_neg hh, hc, e, Option.bind_some]
      exact Ev.now _
theorem okR_of {R : Int} {l : List S45} (hC : okC R l = true) (hR : R ≤ 6) {p : Int} {x : List Int} (h : okS R l p x) : okR x := by
  have h1 := (okC_true hC).1
  have h2 := h.2.2.1
  exact ⟨by omega, by omega, fun v hv => (h.2.2.2 v hv).1⟩
theorem wf_of {R : Int} {l : List S45} {p : Int} {x : List Int} (h : okS R l p x) : ∀ v ∈ x, (Lit.int .i64 v).wf = true := fun v hv => by
  have := h.2.2.2 v hv
  exact wf_mk (by omega) (by omega)
/-- One step, and what stands for it: so it is, and where it isn't done, the next state fits. -/
theorem next_ok {R : Int} {l : List S45} (hb : l.length * 32 ≤ 140737488351232) (hC : okC R l = true) (hR : R ≤ 6) {pts : List Int} {r : List S45} (hpt : pts = (twoP l l.length 0 [] []).1) (hrl : r.length = (twoP l l.length 0 [] []).2.length) (hr2 : r.length ≤ 2000) (hr : ∀ j, j < r.length → rd_T45 r (j : Int) = fixI pts (rd_T45 (twoP l l.length 0 [] []).2 (j : Int))) {p : Int} {x : List Int} (ok : okS R l p x) {most : Int} (hmost : most ≤ 5000) : ∃ z : Int × List Int × Bool, Ev (fun k => standstilllaw08_next.f k R l 2 r pts p x most) (z.1, z.2.1, z.2.2, true) ∧ okS R l z.1 z.2.1 := by
  have hS := Step_ev hb hC ok
  have done : ∀ g : Nat → Option (Int × List Int × Bool × Bool), Ev g (p, x, true, true) → ∃ z : Int × List Int × Bool, Ev g (z.1, z.2.1, z.2.2, true) ∧ okS R l z.1 z.2.1 := fun g hg => ⟨(p, x, true), hg, ok⟩
  unfold outS at hS
  unfold standstilllaw08_next.f
  by_cases hh : (rd_T45 l p).f0 = 2
  · rw [if_pos hh] at hS
    refine done _ ?_
    rw [Ev_bind hS]
    simp only [if_neg (show ¬ (5 : Int) = 0 by decide), if_true]
    exact Ev.now _
  rw [if_neg hh] at hS
  rcases cst_ok hC ok hh with e | ⟨p1, x1, e, ok1⟩
  · rw [e] at hS
    refine done _ ?_
    rw [Ev_bind hS]
    simp only [if_neg (show ¬ (4 : Int) = 0 by decide), if_neg (show ¬ (4 : Int) = 5 by decide), beq_self_eq_true]
    exact Ev.now _
  rw [e] at hS
  have hx := okR_of hC hR ok
  have hx1 := okR_of hC hR ok1
  have hll : x1.length = x.length := by have h1 := ok.2.2.1; have h2 := ok1.2.2.1; omega
  have head : ∀ v, Ev (fun k => standstilllaw08_next.j0 k pts most false 2 r p x p1 x1) v → Ev (fun k => (counter_Step.f k R l p x).bind fun bt239 => (if bt239.2.2 = 0 then ((standstillref08_Contents.f k x).bind fun t245 => (if t245 = true then ((standstillref08_Contents.f k bt239.2.1).bind fun t246 => (standstilllaw08_next.j0 k pts most (!t246) 2 r p x bt239.1 bt239.2.1)) else (standstilllaw08_next.j0 k pts most true 2 r p x bt239.1 bt239.2.1))) else (if bt239.2.2 = 5 then (some (p, x, true, true)) else (some (p, x, true, (bt239.2.2 == 4)))))) v := by
    intro v hv
    rw [Ev_bind hS]
    simp only [if_true]
    rw [Ev_bind ((Contents_ev x (by have := hx.2.1; omega)).1 hx)]
    simp only [if_true]
    rw [Ev_bind ((Contents_ev x1 (by have := hx1.2.1; omega)).1 hx1)]
    exact hv
  suffices h : ∃ z : Int × List Int × Bool, Ev (fun k => standstilllaw08_next.j0 k pts most false 2 r p x p1 x1) (z.1, z.2.1, z.2.2, true) ∧ okS R l z.1 z.2.1 by
    obtain ⟨z, h1, h2⟩ := h
    exact ⟨z, head _ h1, h2⟩
  have J1 : ∀ n m, Ev (fun k => standstilllaw08_next.j1 k pts n m true 2 r p x p1 x1) (p, x, true, true) := by
    intro n m
    rw [Ev_succ]
    simp only [standstilllaw08_next.j1, if_true]
    exact Ev.now _
  have E1 := RefEncode_ev x hx (wf_of ok)
  have E2 := RefEncode_ev x1 hx1 (wf_of ok1)
  cases hn : encG x x.length 0 1 with
  | none =>
    rw [hn] at E1
    refine done _ ?_
    rw [Ev_succ]
    simp only [standstilllaw08_next.j0, Bool.false_eq_true, if_false]
    rw [Ev_bind E1, Ev_bind E2]
    simp only [outR, Bool.false_eq_true, if_false]
    exact J1 _ _
  | some n =>
    rw [hn] at E1
    cases hm : encG x1 x1.length 0 1 with
    | none =>
      rw [hm] at E2
      refine done _ ?_
      rw [Ev_succ]
      simp only [standstilllaw08_next.j0, Bool.false_eq_true, if_false]
      rw [Ev_bind E1, Ev_bind E2]
      simp only [outR, Bool.false_eq_true, if_false, if_true]
      exact J1 _ _
    | some m =>
      rw [hm] at E2
      have body : ∀ v, (if n > most ∨ m > most then True else Ev (fun k => standstilllaw08_next.j1 k pts n m false 2 r p x p1 x1) v) → (n > most ∨ m > most → v = (p, x, true, true)) → Ev (fun k => standstilllaw08_next.j0 k pts most false 2 r p x p1 x1) v := by
        intro v h1 h2
        rw [Ev_succ]
        simp only [standstilllaw08_next.j0, Bool.false_eq_true, if_false]
        rw [Ev_bind E1, Ev_bind E2]
        simp only [outR, if_true]
        show Ev (fun k => if n > most then standstilllaw08_next.j1 k pts n m true 2 r p x p1 x1 else standstilllaw08_next.j1 k pts n m (decide (m > most)) 2 r p x p1 x1) v
        by_cases a : n > most
        · simp only [if_pos a]
          rw [h2 (.inl a)]
          exact J1 _ _
        · simp only [if_neg a]
          by_cases b : m > most
          · rw [decide_eq_true b, h2 (.inr b)]
            exact J1 _ _
          · rw [decide_eq_false b]
            rw [if_neg (by omega)] at h1
            exact h1
      by_cases big : n > most ∨ m > most
      · refine done _ (body _ ?_ (fun _ => rfl))
        rw [if_pos big]
        trivial
      refine ⟨(p1, x1, false), body _ ?_ (fun h => absurd h big), ok1⟩
      rw [if_neg big]
      obtain ⟨t, hu, ht⟩ := sim hC hR (pts := pts) (cd := (twoP l l.length 0 [] []).2) (r := r) hpt rfl hrl hr ok hh e hn (by rw [← hll]; exact hm) (by omega) (by omega)
      have H := isTwo hC hR
      rw [← hpt] at H
      have hlen := H.inv.len
      have hl2 := (okC_true hC).2.2.2.1
      have hrng : ∀ j, j < pts.length → 0 ≤ rd pts (j : Int) ∧ rd pts (j : Int) < (r.length : Int) := fun j hj => by rw [hrl]; exact H.inv.rng j (by omega)
      have hv := two_valid hC hR hr2 hrl (by rw [← hpt]; exact hr)
      have hpg : pgo (r.length : Int) pts pts.length 0 = true := pgo_ok _ pts hrng (fun j hj => H.inv.up j (by omega)) pts.length 0 (by omega)
      have hn1 := (enc_val hx.2.1 hn).2
      have hm1 := (enc_val hx1.2.1 hm).2
      obtain ⟨i, rfl⟩ := Int.eq_ofNat_of_zero_le ok.1
      obtain ⟨i1, rfl⟩ := Int.eq_ofNat_of_zero_le ok1.1
      have hi := ok.2.1
      have hi1 := ok1.2.1
      have ok2 : okS 2 r (rd pts (i : Int)) [n, 0] := ⟨(hrng i (by omega)).1, (hrng i (by omega)).2, rfl, fun v hv => by
        rcases List.mem_cons.1 hv with rfl | hv
        · omega
        · rw [List.mem_singleton] at hv
          omega⟩
      have hmx : mx n m ≤ 5000 ∧ 1 ≤ mx n m := by unfold mx; split <;> omega
      have hU := Until_ok (n := 100 + 100 * mx n m) (by omega) hv ok2 (by omega) hpg hu ht (by omega)
      have hw : wrap64 (100 + wrap64 (100 * mx n m)) = 100 + 100 * mx n m := by rw [wrap_id (x := 100 * mx n m) (by omega) (by omega), wrap_id (by omega) (by omega)]
      rw [Ev_succ]
      simp only [standstilllaw08_next.j1, Bool.false_eq_true, if_false]
      simp only [if_neg (show ¬ (i : Int) < 0 by omega), if_neg (show ¬ (i : Int) ≥ (pts.length : Int) by omega), if_neg (show ¬ (i1 : Int) < 0 by omega)]
      rw [decide_eq_false (show ¬ (i1 : Int) ≥ (pts.length : Int) by omega), Ev_succ]
      simp only [standstilllaw08_next.j2, Bool.false_eq_true, if_false]
      simp only [if_pos (show (0 : Int) ≤ (i : Int) by omega), if_pos (show (i : Int) < (pts.length : Int) by omega), hw]
      rw [Ev_bind hU]
      simp only [if_true, if_pos ht, if_pos (show (0 : Int) ≤ (i1 : Int) by omega), if_pos (show (i1 : Int) < (pts.length : Int) by omega)]
      rw [Ev_bind (sameCount_refl _ _ (by simp))]
      exact Ev.now _

/-- What stands at the end: a state and its point stop together. -/
theorem op_same {R : Int} {l : List S45} (hC : okC R l = true) (hR : R ≤ 6) {r : List S45} (hrl : r.length = (twoP l l.length 0 [] []).2.length) (hr : ∀ j, j < r.length → rd_T45 r (j : Int) = fixI (twoP l l.length 0 [] []).1 (rd_T45 (twoP l l.length 0 [] []).2 (j : Int))) {i : Nat} (hi : i < l.length) : 0 ≤ rd (twoP l l.length 0 [] []).1 (i : Int) ∧ rd (twoP l l.length 0 [] []).1 (i : Int) < (r.length : Int) ∧ ((rd_T45 l (i : Int)).f0 = 2 ↔ (rd_T45 r (rd (twoP l l.length 0 [] []).1 (i : Int))).f0 = 2) := by
  have H := isTwo hC hR
  have h1 := H.inv.rng i hi
  have h2 := H.inv.op i hi
  refine ⟨h1.1, by omega, ?_⟩
  rw [← h2]
  obtain ⟨m, hm⟩ := Int.eq_ofNat_of_zero_le h1.1
  rw [hm] at h1 ⊢
  rw [hr m (by omega)]
  exact Iff.rfl
theorem ru_end {R : Int} {l : List S45} (hC : okC R l = true) (hR : R ≤ 6) {pts : List Int} {r : List S45} (hpt : pts = (twoP l l.length 0 [] []).1) (hrl : r.length = (twoP l l.length 0 [] []).2.length) (hr : ∀ j, j < r.length → rd_T45 r (j : Int) = fixI pts (rd_T45 (twoP l l.length 0 [] []).2 (j : Int))) {p : Int} (h0 : 0 ≤ p) (h1 : p < (l.length : Int)) : Ev (fun k => if p < 0 then none else if p ≥ (pts.length : Int) then none else if p ≥ (l.length : Int) then none else if 0 ≤ p then if p < (pts.length : Int) then if rd pts p < 0 then none else if rd pts p ≥ (r.length : Int) then none else if p < (l.length : Int) then if 0 ≤ rd pts p then if rd pts p < (r.length : Int) then if (((rd_T45 l p).f0 == 2) == ((rd_T45 r (rd pts p)).f0 == 2)) = true then (standstilllaw08_awake.f k).bind fun t => some t else none else none else none else none else none else none) true := by
  obtain ⟨i, rfl⟩ := Int.eq_ofNat_of_zero_le h0
  have hlen := (isTwo hC hR).inv.len
  rw [← hpt] at hlen
  obtain ⟨a, b, c⟩ := op_same hC hR hrl (by rw [← hpt]; exact hr) (i := i) (by omega)
  rw [← hpt] at a b c
  have e : (((rd_T45 l (i : Int)).f0 == 2) == ((rd_T45 r (rd pts (i : Int))).f0 == 2)) = true := by
    by_cases d : (rd_T45 l (i : Int)).f0 = 2
    · rw [beq_iff_eq.2 d, beq_iff_eq.2 (c.1 d)]
      rfl
    · rw [beq_eq_false_iff_ne.2 d, beq_eq_false_iff_ne.2 (fun h => d (c.2 h))]
      rfl
  simp only [if_neg (show ¬ (i : Int) < 0 by omega), if_neg (show ¬ (i : Int) ≥ (pts.length : Int) by omega), if_neg (show ¬ (i : Int) ≥ (l.length : Int) by omega), if_pos (show (0 : Int) ≤ (i : Int) by omega), if_pos (show (i : Int) < (pts.length : Int) by omega), if_neg (show ¬ rd pts (i : Int) < 0 by omega), if_neg (show ¬ rd pts (i : Int) ≥ (r.length : Int) by omega), if_pos h1, if_pos a, if_pos b, e, if_true]
  exact awake_b
theorem ru_l1 {R : Int} {l : List S45} (hb : l.length * 32 ≤ 140737488351232) (hC : okC R l = true) (hR : R ≤ 6) {pts : List Int} {r : List S45} (hpt : pts = (twoP l l.length 0 [] []).1) (hrl : r.length = (twoP l l.length 0 [] []).2.length) (hr2 : r.length ≤ 2000) (hr : ∀ j, j < r.length → rd_T45 r (j : Int) = fixI pts (rd_T45 (twoP l l.length 0 [] []).2 (j : Int))) {n : Int} (hn0 : 0 ≤ n) (hn : n ≤ 255) : ∀ (d : Nat) (i : Int) (p : Int) (x : List Int), 0 ≤ i → (n % 61 - i).toNat = d → okS R l p x → Ev (fun k => standstilllaw08_PairRuns.l1 k n pts i R l 2 r p x) true := by
  have hm : Int.tmod (wrap64 n) 61 = n % 61 := by
    rw [wrap_id (by omega) (by omega), Int.tmod_eq_emod_of_nonneg hn0]
  intro d
  induction d with
  | zero =>
    intro i p x hi hd ok
    rw [Ev_succ]
    simp only [standstilllaw08_PairRuns.l1, hm]
    simp only [if_neg (show ¬ i < n % 61 by omega)]
    exact ru_end hC hR hpt hrl hr ok.1 ok.2.1
  | succ d ih =>
    intro i p x hi hd ok
    rw [Ev_succ]
    simp only [standstilllaw08_PairRuns.l1, hm]
    simp only [if_pos (show i < n % 61 by omega)]
    obtain ⟨z, hz, okz⟩ := next_ok hb hC hR hpt hrl hr2 hr ok (most := 3000) (by decide)
    obtain ⟨p1, x1, dn⟩ := z
    rw [Ev_bind hz]
    simp only [if_true]
    cases dn with
    | true =>
      simp only [if_true]
      exact ru_end hC hR hpt hrl hr ok.1 ok.2.1
    | false =>
      simp only [Bool.false_eq_true, if_false]
      rw [wrap_id (x := i + 1) (by omega) (by omega)]
      exact ih (i + 1) p1 x1 (by omega) (by omega) okz
theorem ru_l0 {R : Int} {l : List S45} (hb : l.length * 32 ≤ 140737488351232) (hC : okC R l = true) (hR : R ≤ 6) {pts : List Int} {r : List S45} (hpt : pts = (twoP l l.length 0 [] []).1) (hrl : r.length = (twoP l l.length 0 [] []).2.length) (hr2 : r.length ≤ 2000) (hr : ∀ j, j < r.length → rd_T45 r (j : Int) = fixI pts (rd_T45 (twoP l l.length 0 [] []).2 (j : Int))) {n : Int} (hn0 : 0 ≤ n) (hn : n ≤ 255) (x : List Int) : ∀ (d i : Nat) (s : List Int), i + d = s.length → (s.length : Int) = R → (∀ v ∈ s, 0 ≤ v ∧ v ≤ 60) → Ev (fun k => standstilllaw08_PairRuns.l0 k x n pts (i : Int) R l 2 r 0 s) true := by
  have hR1 := (okC_true hC).2.2.1
  have start : ∀ s : List Int, (s.length : Int) = R → (∀ v ∈ s, 0 ≤ v ∧ v ≤ 60) → Ev (fun k => standstilllaw08_PairRuns.l1 k n pts 0 R l 2 r 0 s) true := fun s h1 h2 => ru_l1 hb hC hR hpt hrl hr2 hr hn0 hn _ 0 0 s (Int.le_refl _) rfl ⟨Int.le_refl _, by omega, h1, fun v hv => by have := h2 v hv; omega⟩
  have fin : ∀ (i : Nat) (s : List Int), (s.length : Int) = R → (∀ v ∈ s, 0 ≤ v ∧ v ≤ 60) → Ev (fun k => standstilllaw08_PairRuns.j2 k x n pts (i : Int) false R l 2 r 0 s) true := by
    intro i s h1 h2
    rw [Ev_succ]
    simp only [standstilllaw08_PairRuns.j2, Bool.false_eq_true, if_false]
    exact start s h1 h2
  intro d
  induction d with
  | zero =>
    intro i s hi h1 h2
    rw [Ev_succ]
    simp only [standstilllaw08_PairRuns.l0]
    simp only [if_neg (show ¬ (i : Int) < R by omega)]
    exact fin i s h1 h2
  | succ d ih =>
    intro i s hi h1 h2
    rw [Ev_succ]
    simp only [standstilllaw08_PairRuns.l0]
    simp only [if_pos (show (i : Int) < R by omega)]
    by_cases c : (i : Int) < (x.length : Int)
    · rw [decide_eq_true c, Ev_succ]
      simp only [standstilllaw08_PairRuns.j2, if_true]
      simp only [if_pos (show (0 : Int) ≤ (i : Int) by omega), if_pos c]
      by_cases a : rd x (i : Int) < 0
      · simp only [if_pos a]
        exact awake_b
      by_cases b : rd x (i : Int) > 60
      · simp only [if_neg a, if_pos b]
        exact awake_b
      simp only [if_neg a, if_neg b, if_pos (show (i : Int) < (s.length : Int) by omega), cast_succ i (by omega), Int.toNat_natCast]
      refine ih (i + 1) _ (by rw [List.length_set]; omega) (by rw [List.length_set]; exact h1) (fun v hv => ?_)
      rcases List.mem_or_eq_of_mem_set hv with hv | rfl
      · exact h2 v hv
      · omega
    · rw [decide_eq_false c]
      exact fin i s h1 h2
/-- Step by step, a register machine and the one with two registers pass through the same states. For machines of more than 4000 instructions, that are not valid or of more than 6 registers, and for more than 100 contents, the law asks for the chapter's examples only. -/
theorem PairRuns : standstilllaw08_PairRuns.Pure := by
  rintro R l x n hR ⟨hb, -⟩ ⟨hxb, -⟩ hn
  suffices h : Ev (fun k => standstilllaw08_PairRuns.f k R l x n) true by
    obtain ⟨K, h⟩ := h
    exact ⟨K, h K (Nat.le_refl _)⟩
  have hn' : 0 ≤ n ∧ n ≤ 255 := by
    simp only [Lit.wf, IntKind.min, IntKind.max, IntKind.signed, IntKind.bits, Bool.and_eq_true, decide_eq_true_eq, Bool.false_eq_true, if_false] at hn
    omega
  have J : Ev (fun k => standstilllaw08_PairRuns.j0 k x n true R l) true := by
    rw [Ev_succ]
    simp only [standstilllaw08_PairRuns.j0, if_true]
    exact awake_b
  unfold standstilllaw08_PairRuns.f
  by_cases c : (l.length : Int) > 4000
  · simp only [if_pos c]
    exact J
  simp only [if_neg c]
  have hV := ref_Valid_ev R l hb
  cases hC : okC R l with
  | false =>
    rw [hC] at hV
    rw [Ev_bind hV]
    simp only [Bool.false_eq_true, if_false]
    exact J
  | true =>
    rw [hC] at hV
    rw [Ev_bind hV]
    simp only [if_true]
    by_cases h6 : R > 6
    · simp only [if_pos h6]
      exact J
    simp only [if_neg h6]
    by_cases hx : (x.length : Int) > 100
    · rw [decide_eq_true hx]
      exact J
    rw [decide_eq_false hx, Ev_succ]
    simp only [standstilllaw08_PairRuns.j0, Bool.false_eq_true, if_false]
    have hT := Two_ev R l hb (by omega)
    rw [hC] at hT
    simp only [if_true, if_neg (show ¬ 6 < R from h6)] at hT
    have hR1 := (okC_true hC).1
    by_cases h2 : 2000 < (twoP l l.length 0 [] []).2.length
    · rw [if_pos h2] at hT
      rw [Ev_bind hT]
      simp only [if_neg (show ¬ (4 : Int) = 0 by decide), if_true]
      exact awake_b
    · rw [if_neg h2] at hT
      obtain ⟨r, e, hrl, hr⟩ := two_fix hC (by omega) (.inr (by omega))
      rw [e] at hT
      rw [Ev_bind hT]
      simp only [if_true, Option.getD_some, if_pos (show 0 ≤ R by omega), if_pos (show R.toNat ≤ 35184372088832 by omega)]
      exact ru_l0 hb hC (by omega) rfl hrl (by omega) hr hn'.1 hn'.2 x R.toNat 0 (List.replicate R.toNat 0) (by simp) (by simp; omega) (fun v hv => by rw [List.eq_of_mem_replicate hv]; decide)

end Go.Proofs.Ytkbekdjoaibhbaa.Pure
