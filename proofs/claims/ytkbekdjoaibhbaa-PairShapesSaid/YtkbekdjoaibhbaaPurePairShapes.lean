/- The plain law of PairShapes: Two answers a right machine with two registers and its points, or the documented error. No condition beyond what every argument has. -/
import Derived.Test.YtkbekdjoaibhbaaAid
import Derived.Test.YtkbekdjoaibhbaaPPairShapesx12
namespace Go.Proofs.Ytkbekdjoaibhbaa.Pure
open Go.RowKit Go.Proofs.Ytkbekdjoaibhbaa.PPairShapes Go.Proofs.YtkbekdjoaibhbaaW.PrintWords Go.Proofs.YtkbekdjoaibhbaaW.PrintLast Go.Proofs.YtkbekdjoaibhbaaW.PrintMore Go.Proofs.YtkbekdjoaibhbaaAid
set_option linter.unusedVariables false
set_option linter.unusedSimpArgs false

theorem sameCount_loop (q q' : Int) (l : List Int) (hl : l.length ≤ 100000) : ∀ (d i : Nat), i + d = l.length → Ev (fun k => standstillref06_SameCount.l0 k (i : Int) q l q' l) true := by
  intro d
  induction d with
  | zero =>
    intro i hi
    rw [Ev_succ]
    simp only [standstillref06_SameCount.l0, Ev_ite, Ev_none]
    rw [if_neg (by omega)]
    exact Ev.now _
  | succ d ih =>
    intro i hi
    have ih := ih (i + 1) (by omega)
    rw [Ev_succ]
    simp only [standstillref06_SameCount.l0, Ev_ite, Ev_none]
    rw [if_pos (by omega), if_pos (by omega), if_pos (by omega), if_pos trivial, wrap_id (by omega) (by omega)]
    exact ih
theorem sameCount_refl (p : Int) (l : List Int) (hl : l.length ≤ 100000) : Ev (fun k => standstillref06_SameCount.f k p l p l) true := by
  unfold standstillref06_SameCount.f
  simp only [if_true]
  rw [Ev_succ]
  simp only [standstillref06_SameCount.j0, Ev_ite]
  rw [if_neg (by simp)]
  exact sameCount_loop p p l hl l.length 0 (by omega)
theorem awake_ev : Ev (fun k => standstilllaw08_awake.f k) true := Ev.of (k := 200) standstilllaw08_awake.mono (by decide +kernel)
theorem awake_b : Ev (fun k => (standstilllaw08_awake.f k).bind fun t => some t) true := by
  rw [Ev_bind awake_ev]
  exact Ev.now _
theorem cast_succ (i : Nat) (h : i ≤ 1000000000) : wrap64 ((i : Int) + 1) = ((i + 1 : Nat) : Int) := by
  rw [wrap_id (by omega) (by omega)]
  push_cast
  rfl

theorem rdT (l : List S45) (i : Nat) (h : i < l.length) : rd_T45 l (i : Int) = l[i] := by
  simp [rd_T45, List.getD, h]
/-- An instruction is right: for R registers and n instructions. -/
def okI (R n : Int) (x : S45) : Prop :=
  (x.f0 = 2 ∧ x.f1 = 0 ∧ x.f2 = 0 ∧ x.f3 = 0) ∨ (x.f0 = 0 ∧ 0 ≤ x.f1 ∧ x.f1 < R ∧ 0 ≤ x.f2 ∧ x.f2 < n ∧ x.f3 = 0) ∨ (x.f0 = 1 ∧ 0 ≤ x.f1 ∧ x.f1 < R ∧ 0 ≤ x.f2 ∧ x.f2 < n ∧ 0 ≤ x.f3 ∧ x.f3 < n)
instance (R n : Int) (x : S45) : Decidable (okI R n x) := by unfold okI; infer_instance
def okIb (R n : Int) (x : S45) : Bool := decide (okI R n x)
/-- A register machine is right. -/
def okC (R : Int) (l : List S45) : Bool := decide (1 ≤ R) && decide (R ≤ 16) && decide (1 ≤ l.length) && decide (l.length ≤ 2000) && l.all (okIb R l.length)

theorem cv_loop (R : Int) (l : List S45) (hn : l.length ≤ 2000) (hp : 1 ≤ l.length) : ∀ (d i : Nat), i + d = l.length → Ev (fun k => counter_Valid.l0 k (l.length : Int) l (l.length : Int) (i : Int) R l) ((l.drop i).all (okIb R l.length)) := by
  intro d
  induction d with
  | zero =>
    intro i hi
    rw [Ev_succ]
    simp only [counter_Valid.l0, Ev_ite, Ev_some, Ev_none]
    rw [if_neg (by omega), List.drop_eq_nil_of_le (by omega)]
    rfl
  | succ d ih =>
    intro i hi
    have hlt : i < l.length := by omega
    have ih := ih (i + 1) (by omega)
    rw [drop_cons l i hlt, List.all_cons, Ev_succ]
    simp only [counter_Valid.l0, Ev_ite, Ev_some, Ev_none]
    rw [if_pos (by omega), if_pos (by omega), if_pos (by omega), rdT l i hlt]
    have hw : wrap64 ((i : Int) + 1) = ((i + 1 : Nat) : Int) := by rw [wrap_id (by omega) (by omega)]; omega
    have hgo : okI R l.length l[i] → Ev (fun k => counter_Valid.l0 k (l.length : Int) l (l.length : Int) (wrap64 ((i : Int) + 1)) R l) (okIb R l.length l[i] && (l.drop (i + 1)).all (okIb R l.length)) := by
      intro h
      rw [hw, okIb, decide_eq_true h, Bool.true_and]
      exact ih
    have hno : ¬ okI R l.length l[i] → (false = (okIb R l.length l[i] && (l.drop (i + 1)).all (okIb R l.length))) := by
      intro h
      rw [okIb, decide_eq_false h, Bool.false_and]
    generalize hx : l[i] = x at hgo hno ⊢
    obtain ⟨f0, f1, f2, f3⟩ := x
    simp only
    by_cases h2 : f0 = 2
    · subst h2
      rw [if_pos rfl, Ev_succ]
      simp only [counter_Valid.j2, Ev_ite, Ev_some]
      by_cases hz : f1 = 0 ∧ f2 = 0 ∧ f3 = 0
      · obtain ⟨rfl, rfl, rfl⟩ := hz
        rw [if_neg (by simp), if_pos trivial]
        exact hgo (by simp [okI])
      · rw [if_pos (by simp; omega)]
        exact hno (by simp only [okI]; omega)
    · rw [if_neg h2, Ev_succ]
      simp only [counter_Valid.j2, Ev_ite, Ev_some]
      rw [if_neg (by simp), if_neg h2]
      have hj3 : ∀ b, (b = true → okIb R l.length ⟨f0, f1, f2, f3⟩ = false) → (b = false → 0 ≤ f1 ∧ f1 < R ∧ 0 ≤ f2 ∧ f2 < l.length ∧ (f0 = 0 ∨ f0 = 1)) → Ev (fun k => counter_Valid.j3 k (l.length : Int) l (l.length : Int) (i : Int) b R l f0 f1 f2 f3) (okIb R l.length ⟨f0, f1, f2, f3⟩ && (l.drop (i + 1)).all (okIb R l.length)) := by
        intro b hb1 hb2
        rw [Ev_succ]
        simp only [counter_Valid.j3, Ev_ite, Ev_some]
        cases b with
        | true =>
          rw [if_pos rfl, hb1 rfl]
          rfl
        | false =>
          obtain ⟨h1, h3, h4, h5, h6⟩ := hb2 rfl
          rw [if_neg (by simp)]
          by_cases h0 : f0 = 0
          · rw [if_pos h0]
            by_cases hz : f3 = 0
            · rw [if_pos hz, if_neg (by omega), if_neg (by omega)]
              exact hgo (by simp only [okI]; omega)
            · rw [if_neg hz]
              exact hno (by simp only [okI]; omega)
          · rw [if_neg h0]
            by_cases hz : f3 < 0
            · rw [if_pos hz]
              exact hno (by simp only [okI]; omega)
            · rw [if_neg hz]
              by_cases hz : f3 ≥ l.length
              · rw [if_pos hz]
                exact hno (by simp only [okI]; omega)
              · rw [if_neg hz]
                exact hgo (by simp only [okI]; omega)
      have hfalse : (¬ (0 ≤ f1 ∧ f1 < R ∧ 0 ≤ f2 ∧ f2 < l.length ∧ (f0 = 0 ∨ f0 = 1))) → okIb R l.length ⟨f0, f1, f2, f3⟩ = false := by
        intro h
        rw [okIb, decide_eq_false (by simp only [okI]; omega)]
      split <;> (repeat' split) <;> first | (refine hj3 _ (fun _ => hfalse (by omega)) (fun h => by cases h)) | (refine hj3 _ (fun h => hfalse (by simp at h; omega)) (fun h => by simp at h; omega))
theorem counter_Valid_ev (R : Int) (l : List S45) (hb : l.length * 32 ≤ 140737488351232) : Ev (fun k => counter_Valid.f k R l) (okC R l) := by
  have hj : ∀ b, (b = true → okC R l = false) → (b = false → l.length ≤ 2000 ∧ 1 ≤ l.length ∧ okC R l = l.all (okIb R l.length)) → Ev (fun k => counter_Valid.j0 k (l.length : Int) b R l) (okC R l) := by
    intro b h1 h2
    rw [Ev_succ]
    simp only [counter_Valid.j0, Ev_ite, Ev_some]
    cases b with
    | true => rw [if_pos rfl, h1 rfl]
    | false =>
      obtain ⟨h3, h4, h5⟩ := h2 rfl
      rw [if_neg (by simp), h5]
      exact cv_loop R l h3 h4 l.length 0 (by omega)
  unfold counter_Valid.f
  simp only [Ev_ite]
  have e : okC R l = (decide (1 ≤ R) && decide (R ≤ 16) && decide (1 ≤ l.length) && decide (l.length ≤ 2000) && l.all (okIb R l.length)) := rfl
  split
  · refine hj _ (fun _ => ?_) (fun h => by cases h)
    rw [e, decide_eq_false (by omega)]; rfl
  · split
    · refine hj _ (fun _ => ?_) (fun h => by cases h)
      rw [e, decide_eq_false (by omega : ¬ R ≤ 16)]; simp
    · split
      · refine hj _ (fun _ => ?_) (fun h => by cases h)
        rw [e, decide_eq_false (by omega : ¬ 1 ≤ l.length)]; simp
      · refine hj _ (fun h => ?_) (fun h => ?_)
        · have h := of_decide_eq_true h
          rw [e, decide_eq_false (by omega : ¬ l.length ≤ 2000)]; simp
        · have h := of_decide_eq_false h
          refine ⟨by omega, by omega, ?_⟩
          rw [e, decide_eq_true (by omega), decide_eq_true (by omega), decide_eq_true (by omega), decide_eq_true (by omega)]
          rfl

theorem rv_loop (R : Int) (l : List S45) (hn : l.length ≤ 2000) : ∀ (d i : Nat), i + d = l.length → Ev (fun k => standstillref06_Valid.l0 k (i : Int) R l) ((l.drop i).all (okIb R l.length)) := by
  intro d
  induction d with
  | zero =>
    intro i hi
    rw [Ev_succ]
    simp only [standstillref06_Valid.l0, Ev_ite, Ev_some, Ev_none]
    rw [if_neg (by omega), List.drop_eq_nil_of_le (by omega)]
    rfl
  | succ d ih =>
    intro i hi
    have hlt : i < l.length := by omega
    have ih := ih (i + 1) (by omega)
    rw [drop_cons l i hlt, List.all_cons, Ev_succ]
    simp only [standstillref06_Valid.l0, Ev_ite, Ev_some, Ev_none]
    rw [if_pos (by omega), if_pos (by omega), rdT l i hlt]
    have hw : wrap64 ((i : Int) + 1) = ((i + 1 : Nat) : Int) := by rw [wrap_id (by omega) (by omega)]; omega
    have hgo : okI R l.length l[i] → Ev (fun k => standstillref06_Valid.l0 k (wrap64 ((i : Int) + 1)) R l) (okIb R l.length l[i] && (l.drop (i + 1)).all (okIb R l.length)) := by
      intro h
      rw [hw, okIb, decide_eq_true h, Bool.true_and]
      exact ih
    have hno : ¬ okI R l.length l[i] → (false = (okIb R l.length l[i] && (l.drop (i + 1)).all (okIb R l.length))) := by
      intro h
      rw [okIb, decide_eq_false h, Bool.false_and]
    generalize hx : l[i] = x at hgo hno ⊢
    obtain ⟨f0, f1, f2, f3⟩ := x
    simp only [okI] at hgo hno
    have hi : ∀ a : Int, standstillref06_index.f R l a = some (decide (0 ≤ a ∧ a < l.length)) := by
      intro a
      unfold standstillref06_index.f
      by_cases h : a ≥ 0
      · rw [if_pos h]; simp [h]
      · rw [if_neg h, decide_eq_false (by omega)]
    simp only [hi, Option.bind_some, Ev_ite, Ev_some]
    repeat' split
    all_goals first | (refine hgo ?_; simp_all; omega) | (refine hno ?_; simp_all; omega) | (exfalso; simp_all; omega) | (refine hgo ?_; simp_all; done) | (refine hno ?_; simp_all; done)

theorem ref_Valid_ev (R : Int) (l : List S45) (hb : l.length * 32 ≤ 140737488351232) : Ev (fun k => standstillref06_Valid.f k R l) (okC R l) := by
  have hj : ∀ b, (b = true → okC R l = false) → (b = false → l.length ≤ 2000 ∧ okC R l = l.all (okIb R l.length)) → Ev (fun k => standstillref06_Valid.j0 k b R l) (okC R l) := by
    intro b h1 h2
    rw [Ev_succ]
    simp only [standstillref06_Valid.j0, Ev_ite, Ev_some]
    cases b with
    | true => rw [if_pos rfl, h1 rfl]
    | false =>
      obtain ⟨h3, h5⟩ := h2 rfl
      rw [if_neg (by simp), h5]
      exact rv_loop R l h3 l.length 0 (by omega)
  unfold standstillref06_Valid.f
  simp only [Ev_ite]
  have e : okC R l = (decide (1 ≤ R) && decide (R ≤ 16) && decide (1 ≤ l.length) && decide (l.length ≤ 2000) && l.all (okIb R l.length)) := rfl
  split
  · refine hj _ (fun _ => ?_) (fun h => by cases h)
    rw [e, decide_eq_false (by omega)]; rfl
  · split
    · refine hj _ (fun _ => ?_) (fun h => by cases h)
      rw [e, decide_eq_false (by omega : ¬ R ≤ 16)]; simp
    · split
      · refine hj _ (fun _ => ?_) (fun h => by cases h)
        rw [e, decide_eq_false (by omega : ¬ 1 ≤ l.length)]; simp
      · refine hj _ (fun h => ?_) (fun h => ?_)
        · have h := of_decide_eq_true h
          rw [e, decide_eq_false (by omega : ¬ l.length ≤ 2000)]; simp
        · have h := of_decide_eq_false h
          refine ⟨by omega, ?_⟩
          rw [e, decide_eq_true (by omega), decide_eq_true (by omega), decide_eq_true (by omega), decide_eq_true (by omega)]
          rfl
theorem okC_true {R : Int} {l : List S45} (h : okC R l = true) : 1 ≤ R ∧ R ≤ 16 ∧ 1 ≤ l.length ∧ l.length ≤ 2000 ∧ ∀ x ∈ l, okI R l.length x := by
  simp only [okC, okIb, Bool.and_eq_true, decide_eq_true_eq, List.all_eq_true] at h
  exact ⟨h.1.1.1.1, h.1.1.1.2, h.1.1.2, h.1.2, h.2⟩
theorem okC_mk {R : Int} {l : List S45} (h : 1 ≤ R ∧ R ≤ 16 ∧ 1 ≤ l.length ∧ l.length ≤ 2000 ∧ ∀ x ∈ l, okI R l.length x) : okC R l = true := by
  simp only [okC, okIb, Bool.and_eq_true, decide_eq_true_eq, List.all_eq_true]
  exact ⟨⟨⟨⟨h.1, h.2.1⟩, h.2.2.1⟩, h.2.2.2.1⟩, h.2.2.2.2⟩


theorem rd45_nat (l : List S45) (i : Nat) (h : i < l.length) : rd_T45 l (i : Int) = l[i] := by
  simp [rd_T45, List.getD, h]
/-- A target of the maker: an instruction of the new machine (L: its length), or -1 - t for the instruction t of the old one (n: its length). -/
def tgt (n L t : Int) : Prop := (0 ≤ t ∧ t < L) ∨ (0 ≤ -1 - t ∧ -1 - t < n)
def preI (n L : Int) (x : S45) : Prop :=
  x = ⟨2, 0, 0, 0⟩ ∨ (x.f0 = 0 ∧ 0 ≤ x.f1 ∧ x.f1 < 2 ∧ tgt n L x.f2 ∧ x.f3 = 0) ∨ (x.f0 = 1 ∧ 0 ≤ x.f1 ∧ x.f1 < 2 ∧ tgt n L x.f2 ∧ tgt n L x.f3)
def AllP (n L : Int) (l : List S45) : Prop := ∀ x ∈ l, preI n L x
theorem AllP_snoc {n L : Int} {l : List S45} (h : AllP n L l) {x : S45} (hx : preI n L x) : AllP n L (l ++ [x]) := by
  intro y hy
  rcases List.mem_append.1 hy with hy | hy
  · exact h y hy
  · rw [List.mem_singleton] at hy
    rw [hy]
    exact hx
theorem pre0 {n L : Int} {r t : Int} (h0 : 0 ≤ r) (h1 : r < 2) (ht : tgt n L t) : preI n L ⟨0, r, t, 0⟩ := .inr (.inl ⟨rfl, h0, h1, ht, rfl⟩)
theorem pre1 {n L : Int} {r t u : Int} (h0 : 0 ≤ r) (h1 : r < 2) (ht : tgt n L t) (hu : tgt n L u) : preI n L ⟨1, r, t, u⟩ := .inr (.inr ⟨rfl, h0, h1, ht, hu⟩)
theorem begin_pre {n L : Int} {l : List S45} (h : AllP n L l) (hL : (l.length : Int) + 3 ≤ L) : AllP n L (mkBegin l) := by
  unfold mkBegin
  rw [show l ++ [(⟨0, 1, (l.length : Int) + 1, 0⟩ : S45), ⟨1, 1, (l.length : Int) + 2, (l.length : Int) + 2⟩] = (l ++ [⟨0, 1, (l.length : Int) + 1, 0⟩]) ++ [⟨1, 1, (l.length : Int) + 2, (l.length : Int) + 2⟩] by simp]
  exact AllP_snoc (AllP_snoc h (pre0 (by decide) (by decide) (.inl ⟨by omega, by omega⟩))) (pre1 (by decide) (by decide) (.inl ⟨by omega, by omega⟩) (.inl ⟨by omega, by omega⟩))
theorem incs_pre {n L a r m : Int} (ha : 0 ≤ a) (h0 : 0 ≤ r) (h1 : r < 2) (hL : a + 1 + m ≤ L) : ∀ (d : Nat) (i : Int) (l : List S45), 0 ≤ i → i + d = m → AllP n L l → AllP n L (mkIncs a r m d i l) := by
  intro d
  induction d with
  | zero => intro i l hi hd h; exact h
  | succ d ih =>
    intro i l hi hd h
    unfold mkIncs
    refine ih (i + 1) _ (by omega) (by omega) (AllP_snoc h (pre0 h0 h1 (.inl ?_)))
    by_cases e : i = m - 1
    · rw [if_pos e]; omega
    · rw [if_neg e]; omega
theorem many_pre {n L : Int} {l : List S45} {fr r m t : Int} (h : AllP n L l) (f0 : 0 ≤ fr) (f1 : fr < 2) (h0 : 0 ≤ r) (h1 : r < 2) (hm : 1 ≤ m) (hL : (l.length : Int) + 1 + m ≤ L) (ht : tgt n L t) : AllP n L (mkMany l fr r m t) := by
  unfold mkMany
  exact incs_pre (by omega) h0 h1 (by omega) _ 0 _ (by decide) (by omega) (AllP_snoc h (pre1 f0 f1 (.inl ⟨by omega, by omega⟩) ht))
theorem inc_pre {n L : Int} {l : List S45} {q t : Int} (h : AllP n L l) (hq : 1 ≤ q) (hL : (l.length : Int) + 5 + q ≤ L) (ht : tgt n L t) : AllP n L (mkInc l q t) := by
  have hb := mkBegin_length l
  have hm := mkMany_length (mkBegin l) 0 1 q ((((mkBegin l).length : Int) + 1) + q)
  unfold mkInc
  refine many_pre (many_pre (begin_pre h (by omega)) (by decide) (by decide) (by decide) (by decide) hq (by omega) (.inl ⟨by omega, by omega⟩)) (by decide) (by decide) (by decide) (by decide) (by decide) (by omega) ht
theorem decs_pre {n L a dn rest q : Int} (ha : 0 ≤ a) (hd0 : 0 ≤ dn) (hd1 : dn < L) (hr : 0 ≤ rest) (hL : rest + q ≤ L) (haL : a + q < L) : ∀ (d : Nat) (i : Int) (l : List S45), 0 ≤ i → i + d = q → AllP n L l → AllP n L (mkDecs a dn rest q d i l) := by
  intro d
  induction d with
  | zero => intro i l hi hd h; exact h
  | succ d ih =>
    intro i l hi hd h
    unfold mkDecs
    refine ih (i + 1) _ (by omega) (by omega) (AllP_snoc h (pre1 (by decide) (by decide) (.inl ⟨by omega, by omega⟩) (.inl ?_)))
    by_cases e : i = 0
    · rw [if_pos e]; omega
    · rw [if_neg e]; omega
theorem ups_pre {n L rest : Int} (hr : 0 ≤ rest) : ∀ (d : Nat) (i : Int) (l : List S45), 0 ≤ i → rest + i + d < L → AllP n L l → AllP n L (mkUps rest d i l) := by
  intro d
  induction d with
  | zero => intro i l hi hd h; exact h
  | succ d ih =>
    intro i l hi hd h
    unfold mkUps
    exact ih (i + 1) _ (by omega) (by omega) (AllP_snoc h (pre0 (by decide) (by decide) (.inl ⟨by omega, by omega⟩)))
theorem mkDec_length (l : List S45) (q t u : Int) (hq : 1 ≤ q) : ((mkDec l q t u).length : Int) = (l.length : Int) + 5 + 3 * q := by
  unfold mkDec
  simp only
  rw [mkMany_length, mkUps_length, mkMany_length, List.length_append, mkDecs_length, mkBegin_length]
  simp only [List.length_cons, List.length_nil]
  omega
theorem dec_pre {n L : Int} {l : List S45} {q t u : Int} (h : AllP n L l) (hq : 1 ≤ q) (hL : (l.length : Int) + 5 + 3 * q ≤ L) (ht : tgt n L t) (hu : tgt n L u) : AllP n L (mkDec l q t u) := by
  have hb := mkBegin_length l
  unfold mkDec
  simp only
  have e1 := mkDecs_length ((mkBegin l).length : Int) (((mkBegin l).length : Int) + q + 1) (((mkBegin l).length : Int) + q + 1 + 2) q q.toNat 0 (mkBegin l)
  have p1 : AllP n L (mkDecs ((mkBegin l).length : Int) (((mkBegin l).length : Int) + q + 1) (((mkBegin l).length : Int) + q + 1 + 2) q q.toNat 0 (mkBegin l)) := decs_pre (by omega) (by omega) (by omega) (by omega) (by omega) (by omega) _ 0 _ (by decide) (by omega) (begin_pre h (by omega))
  generalize mkDecs ((mkBegin l).length : Int) (((mkBegin l).length : Int) + q + 1) (((mkBegin l).length : Int) + q + 1 + 2) q q.toNat 0 (mkBegin l) = l1 at e1 p1 ⊢
  have e2 : (l1 ++ [(⟨0, 1, ((mkBegin l).length : Int), 0⟩ : S45)]).length = l1.length + 1 := by simp
  have p2 : AllP n L (l1 ++ [(⟨0, 1, ((mkBegin l).length : Int), 0⟩ : S45)]) := AllP_snoc p1 (pre0 (by decide) (by decide) (.inl ⟨by omega, by omega⟩))
  generalize l1 ++ [(⟨0, 1, ((mkBegin l).length : Int), 0⟩ : S45)] = l2 at e2 p2 ⊢
  have e3 := mkMany_length l2 1 0 1 t
  have p3 : AllP n L (mkMany l2 1 0 1 t) := many_pre p2 (by decide) (by decide) (by decide) (by decide) (by decide) (by omega) ht
  generalize mkMany l2 1 0 1 t = l3 at e3 p3 ⊢
  have e4 := mkUps_length (((mkBegin l).length : Int) + q + 1 + 2) (q - 1).toNat 0 l3
  have p4 : AllP n L (mkUps (((mkBegin l).length : Int) + q + 1 + 2) (q - 1).toNat 0 l3) := ups_pre (by omega) _ 0 _ (by decide) (by omega) p3
  exact many_pre p4 (by decide) (by decide) (by decide) (by decide) hq (by omega) hu
/-- What the maker adds, it adds at the end. -/
theorem incs_app (a r m : Int) : ∀ (d : Nat) (i : Int) (l : List S45), ∃ t, mkIncs a r m d i l = l ++ t
  | 0, i, l => ⟨[], by simp [mkIncs]⟩
  | d + 1, i, l => by
    unfold mkIncs
    obtain ⟨t, h⟩ := incs_app a r m d (i + 1) (l ++ [⟨0, r, if i = m - 1 then a else a + 2 + i, 0⟩])
    exact ⟨_, by rw [h, List.append_assoc]⟩
theorem many_app (l : List S45) (fr r m t : Int) : ∃ s, mkMany l fr r m t = l ++ s := by
  unfold mkMany
  obtain ⟨s, h⟩ := incs_app (l.length : Int) r m m.toNat 0 (l ++ [⟨1, fr, (l.length : Int) + 1, t⟩])
  exact ⟨_, by rw [h, List.append_assoc]⟩
theorem decs_app (a dn rest q : Int) : ∀ (d : Nat) (i : Int) (l : List S45), ∃ t, mkDecs a dn rest q d i l = l ++ t
  | 0, i, l => ⟨[], by simp [mkDecs]⟩
  | d + 1, i, l => by
    unfold mkDecs
    obtain ⟨t, h⟩ := decs_app a dn rest q d (i + 1) (l ++ [⟨1, 0, a + i + 1, if i = 0 then dn else rest + q - 1 - i⟩])
    exact ⟨_, by rw [h, List.append_assoc]⟩
theorem ups_app (rest : Int) : ∀ (d : Nat) (i : Int) (l : List S45), ∃ t, mkUps rest d i l = l ++ t
  | 0, i, l => ⟨[], by simp [mkUps]⟩
  | d + 1, i, l => by
    unfold mkUps
    obtain ⟨t, h⟩ := ups_app rest d (i + 1) (l ++ [⟨0, 0, rest + i + 1, 0⟩])
    exact ⟨_, by rw [h, List.append_assoc]⟩
theorem begin_app (l : List S45) : ∃ s, mkBegin l = l ++ ((⟨0, 1, (l.length : Int) + 1, 0⟩ : S45) :: s) := ⟨_, rfl⟩
theorem inc_app (l : List S45) (q t : Int) : ∃ s, mkInc l q t = l ++ ((⟨0, 1, (l.length : Int) + 1, 0⟩ : S45) :: s) := by
  unfold mkInc
  obtain ⟨s1, h1⟩ := begin_app l
  obtain ⟨s2, h2⟩ := many_app (mkBegin l) 0 1 q ((((mkBegin l).length : Int) + 1) + q)
  obtain ⟨s3, h3⟩ := many_app (mkMany (mkBegin l) 0 1 q ((((mkBegin l).length : Int) + 1) + q)) 1 0 1 t
  exact ⟨s1 ++ s2 ++ s3, by rw [h3, h2, h1]; simp⟩
theorem dec_app (l : List S45) (q t u : Int) : ∃ s, mkDec l q t u = l ++ ((⟨0, 1, (l.length : Int) + 1, 0⟩ : S45) :: s) := by
  unfold mkDec
  simp only
  obtain ⟨s1, h1⟩ := begin_app l
  obtain ⟨s2, h2⟩ := decs_app ((mkBegin l).length : Int) (((mkBegin l).length : Int) + q + 1) (((mkBegin l).length : Int) + q + 1 + 2) q q.toNat 0 (mkBegin l)
  rw [h2]
  obtain ⟨s3, h3⟩ := many_app (mkBegin l ++ s2 ++ [(⟨0, 1, ((mkBegin l).length : Int), 0⟩ : S45)]) 1 0 1 t
  rw [h3]
  obtain ⟨s4, h4⟩ := ups_app (((mkBegin l).length : Int) + q + 1 + 2) (q - 1).toNat 0 (mkBegin l ++ s2 ++ [(⟨0, 1, ((mkBegin l).length : Int), 0⟩ : S45)] ++ s3)
  rw [h4]
  obtain ⟨s5, h5⟩ := many_app (mkBegin l ++ s2 ++ [(⟨0, 1, ((mkBegin l).length : Int), 0⟩ : S45)] ++ s3 ++ s4) 1 0 q u
  rw [h5]
  refine ⟨s1 ++ s2 ++ [(⟨0, 1, ((mkBegin l).length : Int), 0⟩ : S45)] ++ s3 ++ s4 ++ s5, ?_⟩
  generalize ((mkBegin l).length : Int) = bl
  rw [h1]
  simp
/-- An instruction of the old machine, and what stands for it. -/
def okO (n : Int) (x : S45) : Prop := (x.f0 = 0 ∨ x.f0 = 1 ∨ x.f0 = 2) ∧ (x.f0 ≠ 2 → 0 ≤ x.f1 ∧ x.f1 < 6 ∧ 0 ≤ x.f2 ∧ x.f2 < n ∧ 0 ≤ x.f3 ∧ x.f3 < n)
def gad (cd : List S45) (x : S45) : List S45 :=
  if x.f0 = 0 then mkInc cd (rd [2, 3, 5, 7, 11, 13] x.f1) (-1 - x.f2) else if x.f0 = 1 then mkDec cd (rd [2, 3, 5, 7, 11, 13] x.f1) (-1 - x.f2) (-1 - x.f3) else cd ++ [⟨2, 0, 0, 0⟩]
theorem prime_rd {r : Int} (h0 : 0 ≤ r) (h1 : r < 6) : 2 ≤ rd [2, 3, 5, 7, 11, 13] r ∧ rd [2, 3, 5, 7, 11, 13] r ≤ 13 := by
  rcases (by omega : r = 0 ∨ r = 1 ∨ r = 2 ∨ r = 3 ∨ r = 4 ∨ r = 5) with rfl | rfl | rfl | rfl | rfl | rfl <;> decide
theorem gad_app (cd : List S45) (x : S45) (hx : x.f0 = 0 ∨ x.f0 = 1 ∨ x.f0 = 2) : ∃ y s, gad cd x = cd ++ (y :: s) ∧ (y.f0 = 2 ↔ x.f0 = 2) := by
  unfold gad
  by_cases a : x.f0 = 0
  · rw [if_pos a]
    obtain ⟨s, h⟩ := inc_app cd (rd [2, 3, 5, 7, 11, 13] x.f1) (-1 - x.f2)
    exact ⟨_, _, h, by simp [a]⟩
  rw [if_neg a]
  by_cases b : x.f0 = 1
  · rw [if_pos b]
    obtain ⟨s, h⟩ := dec_app cd (rd [2, 3, 5, 7, 11, 13] x.f1) (-1 - x.f2) (-1 - x.f3)
    exact ⟨_, _, h, by simp [b]⟩
  rw [if_neg b]
  exact ⟨_, [], rfl, by simp; omega⟩
theorem gad_len {n : Int} (cd : List S45) (x : S45) (hx : okO n x) : cd.length < (gad cd x).length ∧ (gad cd x).length ≤ cd.length + 44 := by
  unfold gad
  by_cases a : x.f0 = 0
  · rw [if_pos a, mkInc_length]
    have := prime_rd (hx.2 (by omega)).1 (hx.2 (by omega)).2.1
    omega
  rw [if_neg a]
  by_cases b : x.f0 = 1
  · rw [if_pos b]
    have := prime_rd (hx.2 (by omega)).1 (hx.2 (by omega)).2.1
    have h := mkDec_length cd (rd [2, 3, 5, 7, 11, 13] x.f1) (-1 - x.f2) (-1 - x.f3) (by omega)
    omega
  rw [if_neg b, List.length_append]
  simp
theorem gad_pre {n L : Int} {cd : List S45} {x : S45} (hx : okO n x) (h : AllP n L cd) (hL : ((gad cd x).length : Int) ≤ L) : AllP n L (gad cd x) := by
  unfold gad at hL ⊢
  by_cases a : x.f0 = 0
  · rw [if_pos a] at hL ⊢
    obtain ⟨k0, k1, k2, k3, k4, k5⟩ := hx.2 (by omega)
    have := prime_rd k0 k1
    rw [mkInc_length] at hL
    exact inc_pre h (by omega) (by omega) (.inr ⟨by omega, by omega⟩)
  rw [if_neg a] at hL ⊢
  by_cases b : x.f0 = 1
  · rw [if_pos b] at hL ⊢
    obtain ⟨k0, k1, k2, k3, k4, k5⟩ := hx.2 (by omega)
    have := prime_rd k0 k1
    rw [mkDec_length _ _ _ _ (by omega)] at hL
    exact dec_pre h (by omega) (by omega) (.inr ⟨by omega, by omega⟩) (.inr ⟨by omega, by omega⟩)
  rw [if_neg b]
  exact AllP_snoc h (.inl rfl)
/-- The maker's rounds. -/
def twoP (code : List S45) : Nat → Nat → List Int → List S45 → List Int × List S45
  | 0, _, pts, cd => (pts, cd)
  | d + 1, i, pts, cd => twoP code d (i + 1) (pts ++ [(cd.length : Int)]) (gad cd (rd_T45 code (i : Int)))
theorem twoGo_eq (code : List S45) (hc : ∀ x ∈ code, okO (code.length : Int) x) (hn : code.length ≤ 2000) : ∀ (d i : Nat) (pts : List Int) (cd : List S45), i + d = code.length → cd.length ≤ 44 * i → pts.length = i → twoGo code d (i : Int) pts cd = some (twoP code d i pts cd) ∧ (twoP code d i pts cd).2.length ≤ 44 * code.length := by
  intro d
  induction d with
  | zero => intro i pts cd hi hl hp; exact ⟨rfl, by simp only [twoP]; omega⟩
  | succ d ih =>
    intro i pts cd hi hl hp
    have hx := hc _ (List.getElem_mem (show i < code.length by omega))
    rw [← rd45_nat code i (by omega)] at hx
    have hgl := gad_len cd (rd_T45 code (i : Int)) hx
    have ih := ih (i + 1) (pts ++ [(cd.length : Int)]) (gad cd (rd_T45 code (i : Int))) (by omega) (by omega) (by simp [hp])
    rw [show (((i + 1 : Nat)) : Int) = (i : Int) + 1 by push_cast; rfl] at ih
    simp only [twoP]
    refine ⟨?_, ih.2⟩
    rw [← ih.1]
    simp only [twoGo]
    rw [if_pos ⟨by omega, by omega⟩]
    generalize rd_T45 code (i : Int) = x at hx
    unfold gad
    by_cases a : x.f0 = 0
    · obtain ⟨k0, k1, k2, k3, k4, k5⟩ := hx.2 (by omega)
      rw [if_pos a, if_pos a, if_pos ⟨⟨k0, k1⟩, k2, by omega⟩]
    rw [if_neg a, if_neg a]
    by_cases b : x.f0 = 1
    · obtain ⟨k0, k1, k2, k3, k4, k5⟩ := hx.2 (by omega)
      rw [if_pos b, if_pos b, if_pos ⟨⟨k0, k1⟩, ⟨k2, by omega⟩, k4, by omega⟩]
    rw [if_neg b, if_neg b]

theorem rd_app_l (l m : List Int) (j : Nat) (h : j < l.length) : rd (l ++ m) (j : Int) = rd l (j : Int) := by
  rw [rd_nat _ j (by rw [List.length_append]; omega), rd_nat l j h, List.getElem_append_left h]
theorem rd_app_r (l : List Int) (a : Int) (j : Nat) (h : j = l.length) : rd (l ++ [a]) (j : Int) = a := by
  subst h
  rw [rd_nat _ _ (by simp)]
  simp
theorem rdc_app (l m : List S45) {p : Int} (h0 : 0 ≤ p) (h : p < (l.length : Int)) : rd_T45 (l ++ m) p = rd_T45 l p := by
  obtain ⟨j, rfl⟩ := Int.eq_ofNat_of_zero_le h0
  rw [rd45_nat _ j (by rw [List.length_append]; omega), rd45_nat l j (by omega), List.getElem_append_left (by omega)]
theorem rdc_at (l m : List S45) (x : S45) {p : Int} (h : p = (l.length : Int)) : rd_T45 (l ++ (x :: m)) p = x := by
  subst h
  rw [rd45_nat _ _ (by simp)]
  simp
structure InvT (code : List S45) (i : Nat) (pts : List Int) (cd : List S45) : Prop where
  len : pts.length = i
  rng : ∀ j, j < i → 0 ≤ rd pts (j : Int) ∧ rd pts (j : Int) < (cd.length : Int)
  up : ∀ j, j + 1 < i → rd pts (j : Int) < rd pts ((j + 1 : Nat) : Int)
  op : ∀ j, j < i → ((rd_T45 cd (rd pts (j : Int))).f0 = 2 ↔ (rd_T45 code (j : Int)).f0 = 2)
  fst : 0 < i → rd pts 0 = 0
  nil : i = 0 → cd = []
theorem InvT_step {code : List S45} {i : Nat} {pts : List Int} {cd : List S45} (h : InvT code i pts cd) (hx : okO (code.length : Int) (rd_T45 code (i : Int))) : InvT code (i + 1) (pts ++ [(cd.length : Int)]) (gad cd (rd_T45 code (i : Int))) := by
  obtain ⟨y, s, e, ey⟩ := gad_app cd (rd_T45 code (i : Int)) hx.1
  have hl := h.len
  have hg := gad_len cd (rd_T45 code (i : Int)) hx
  refine ⟨by simp [hl], ?_, ?_, ?_, ?_, fun h0 => by omega⟩
  · intro j hj
    by_cases c : j = i
    · rw [rd_app_r pts _ j (by omega)]
      omega
    · rw [rd_app_l pts _ j (by omega)]
      have := h.rng j (by omega)
      omega
  · intro j hj
    by_cases c : j + 1 = i
    · rw [rd_app_r pts _ (j + 1) (by omega), rd_app_l pts _ j (by omega)]
      exact (h.rng j (by omega)).2
    · rw [rd_app_l pts _ (j + 1) (by omega), rd_app_l pts _ j (by omega)]
      exact h.up j (by omega)
  · intro j hj
    by_cases c : j = i
    · rw [rd_app_r pts _ j (by omega), e, rdc_at _ _ _ rfl, ey, c]
    · have hr := h.rng j (by omega)
      rw [rd_app_l pts _ j (by omega), e, rdc_app _ _ hr.1 hr.2]
      exact h.op j (by omega)
  · intro _
    by_cases c : i = 0
    · have h1 : cd = [] := h.nil c
      have := rd_app_r pts (cd.length : Int) 0 (by omega)
      rw [h1] at this ⊢
      exact this
    · have := rd_app_l pts [(cd.length : Int)] 0 (by omega)
      exact this.trans (h.fst (by omega))
theorem twoP_inv (code : List S45) (hc : ∀ x ∈ code, okO (code.length : Int) x) : ∀ (d i : Nat) (pts : List Int) (cd : List S45), i + d = code.length → InvT code i pts cd → InvT code code.length (twoP code d i pts cd).1 (twoP code d i pts cd).2 := by
  intro d
  induction d with
  | zero =>
    intro i pts cd hi h
    have : i = code.length := by omega
    rw [← this]
    exact h
  | succ d ih =>
    intro i pts cd hi h
    have hx := hc _ (List.getElem_mem (show i < code.length by omega))
    rw [← rd45_nat code i (by omega)] at hx
    exact ih (i + 1) _ _ (by omega) (InvT_step h hx)
theorem twoP_len (code : List S45) (hc : ∀ x ∈ code, okO (code.length : Int) x) : ∀ (d i : Nat) (pts : List Int) (cd : List S45), i + d = code.length → cd.length + d ≤ (twoP code d i pts cd).2.length := by
  intro d
  induction d with
  | zero => intro i pts cd hi; exact Nat.le_refl _
  | succ d ih =>
    intro i pts cd hi
    have hx := hc _ (List.getElem_mem (show i < code.length by omega))
    rw [← rd45_nat code i (by omega)] at hx
    have hg := gad_len cd (rd_T45 code (i : Int)) hx
    have := ih (i + 1) (pts ++ [(cd.length : Int)]) (gad cd (rd_T45 code (i : Int))) (by omega)
    simp only [twoP]
    omega
theorem twoP_pre (code : List S45) (hc : ∀ x ∈ code, okO (code.length : Int) x) (L : Int) : ∀ (d i : Nat) (pts : List Int) (cd : List S45), i + d = code.length → AllP (code.length : Int) L cd → ((twoP code d i pts cd).2.length : Int) ≤ L → AllP (code.length : Int) L (twoP code d i pts cd).2 := by
  intro d
  induction d with
  | zero => intro i pts cd hi h hL; exact h
  | succ d ih =>
    intro i pts cd hi h hL
    have hx := hc _ (List.getElem_mem (show i < code.length by omega))
    rw [← rd45_nat code i (by omega)] at hx
    have hl := twoP_len code hc d (i + 1) (pts ++ [(cd.length : Int)]) (gad cd (rd_T45 code (i : Int))) (by omega)
    simp only [twoP] at hL ⊢
    exact ih (i + 1) _ _ (by omega) (gad_pre hx h (by omega)) hL
/-- The second pass: targets of the old machine become points. -/
def fx (pts : List Int) (t : Int) : Int := if t < 0 then rd pts (-1 - t) else t
def fixI (pts : List Int) (x : S45) : S45 := ⟨x.f0, x.f1, fx pts x.f2, fx pts x.f3⟩
def okT (pts : List Int) (t : Int) : Prop := t < 0 → -1000000000 ≤ t ∧ -1 - t < (pts.length : Int)
theorem rdc_set (c : List S45) (i j : Nat) (hi : i < c.length) (hj : j < c.length) (y : S45) : rd_T45 (c.set i y) (j : Int) = if i = j then y else rd_T45 c (j : Int) := by
  rw [rd45_nat _ j (by rw [List.length_set]; exact hj), List.getElem_set]
  split
  · rfl
  · rw [rd45_nat c j hj]
theorem set_self45 (c : List S45) (i : Nat) (hi : i < c.length) : c.set i (rd_T45 c (i : Int)) = c := by
  rw [rd45_nat c i hi]
  simp
theorem fix2_eq (pts : List Int) (i : Nat) (c : List S45) (hi : i < c.length) (h : okT pts (rd_T45 c (i : Int)).f2) : fix2 pts (i : Int) c = some (c.set i ⟨(rd_T45 c (i : Int)).f0, (rd_T45 c (i : Int)).f1, fx pts (rd_T45 c (i : Int)).f2, (rd_T45 c (i : Int)).f3⟩) := by
  unfold fix2 fx
  by_cases a : (rd_T45 c (i : Int)).f2 < 0
  · rw [if_pos a, if_pos a, if_pos (h a), Int.toNat_natCast]
  · rw [if_neg a, if_neg a]
    congr 1
    exact (set_self45 c i hi).symm
theorem fix3_eq (pts : List Int) (i : Nat) (c : List S45) (hi : i < c.length) (h : okT pts (rd_T45 c (i : Int)).f3) : fix3 pts (i : Int) c = some (c.set i ⟨(rd_T45 c (i : Int)).f0, (rd_T45 c (i : Int)).f1, (rd_T45 c (i : Int)).f2, fx pts (rd_T45 c (i : Int)).f3⟩) := by
  unfold fix3 fx
  by_cases a : (rd_T45 c (i : Int)).f3 < 0
  · rw [if_pos a, if_pos a, if_pos (h a), Int.toNat_natCast]
  · rw [if_neg a, if_neg a]
    congr 1
    exact (set_self45 c i hi).symm
theorem twoFix_eq (pts : List Int) : ∀ (d i : Nat) (c : List S45), i + d = c.length → (∀ j, i ≤ j → j < c.length → okT pts (rd_T45 c (j : Int)).f2 ∧ okT pts (rd_T45 c (j : Int)).f3) → ∃ r, twoFix pts d (i : Int) c = some r ∧ r.length = c.length ∧ ∀ j, j < c.length → rd_T45 r (j : Int) = if i ≤ j then fixI pts (rd_T45 c (j : Int)) else rd_T45 c (j : Int) := by
  intro d
  induction d with
  | zero =>
    intro i c hi h
    exact ⟨c, rfl, rfl, fun j hj => by rw [if_neg (by omega)]⟩
  | succ d ih =>
    intro i c hi h
    have hic : i < c.length := by omega
    have h2 := fix2_eq pts i c hic (h i (Nat.le_refl _) hic).1
    obtain ⟨c1, hc1⟩ : ∃ z, c.set i ⟨(rd_T45 c (i : Int)).f0, (rd_T45 c (i : Int)).f1, fx pts (rd_T45 c (i : Int)).f2, (rd_T45 c (i : Int)).f3⟩ = z := ⟨_, rfl⟩
    have hl1 : c1.length = c.length := by rw [← hc1, List.length_set]
    have r1 : rd_T45 c1 (i : Int) = ⟨(rd_T45 c (i : Int)).f0, (rd_T45 c (i : Int)).f1, fx pts (rd_T45 c (i : Int)).f2, (rd_T45 c (i : Int)).f3⟩ := by
      rw [← hc1, rdc_set c i i hic hic, if_pos rfl]
    have h3 := fix3_eq pts i c1 (by omega) (by rw [r1]; exact (h i (Nat.le_refl _) hic).2)
    rw [r1] at h3
    rw [hc1] at h2
    obtain ⟨c2, hc2⟩ : ∃ z, c1.set i (fixI pts (rd_T45 c (i : Int))) = z := ⟨_, rfl⟩
    have h3' : fix3 pts (i : Int) c1 = some c2 := by rw [h3, ← hc2]; rfl
    have hc2' : c2 = c.set i (fixI pts (rd_T45 c (i : Int))) := by rw [← hc2, ← hc1, List.set_set]
    have hl2 : c2.length = c.length := by rw [hc2', List.length_set]
    have r2 : ∀ j, j < c.length → rd_T45 c2 (j : Int) = if i = j then fixI pts (rd_T45 c (i : Int)) else rd_T45 c (j : Int) := fun j hj => by rw [hc2', rdc_set c i j hic hj]
    obtain ⟨r, e1, e2, e3⟩ := ih (i + 1) c2 (by omega) (fun j hj hj2 => by
      rw [r2 j (by omega), if_neg (by omega)]
      exact h j (by omega) (by omega))
    refine ⟨r, ?_, by omega, fun j hj => ?_⟩
    · simp only [twoFix, h2, Option.bind_some, h3']
      rw [← e1]
      congr 1
    · rw [e3 j (by omega)]
      by_cases a : i + 1 ≤ j
      · rw [if_pos a, if_pos (by omega), r2 j hj, if_neg (by omega)]
      · rw [if_neg a, r2 j hj]
        by_cases b : i = j
        · subst b
          rw [if_pos rfl, if_pos (Nat.le_refl _)]
        · rw [if_neg b, if_neg (by omega)]
theorem okO_of {R : Int} {l : List S45} (h : okC R l = true) (hR : R ≤ 6) : ∀ x ∈ l, okO (l.length : Int) x := by
  intro x hx
  rcases (okC_true h).2.2.2.2 x hx with ⟨a, b, c, d⟩ | ⟨a, b, c, d, e, f⟩ | ⟨a, b, c, d, e, f, g⟩
  · exact ⟨by omega, fun h => absurd a h⟩
  · exact ⟨by omega, fun _ => by omega⟩
  · exact ⟨by omega, fun _ => by omega⟩
/-- The machine with two registers, and its points. -/
structure IsTwo (code : List S45) (pts : List Int) (cd : List S45) : Prop where
  eq : (pts, cd) = twoP code code.length 0 [] []
  inv : InvT code code.length pts cd
  pre : AllP (code.length : Int) (cd.length : Int) cd
theorem isTwo {R : Int} {l : List S45} (h : okC R l = true) (hR : R ≤ 6) : IsTwo l (twoP l l.length 0 [] []).1 (twoP l l.length 0 [] []).2 :=
  ⟨rfl, twoP_inv l (okO_of h hR) l.length 0 [] [] (by omega) ⟨rfl, fun j hj => by omega, fun j hj => by omega, fun j hj => by omega, fun h => by omega, fun _ => rfl⟩, twoP_pre l (okO_of h hR) _ l.length 0 [] [] (by omega) (fun x hx => by cases hx) (Int.le_refl _)⟩
theorem preI_okT {n L : Int} {pts : List Int} (hp : (pts.length : Int) = n) (hn : n ≤ 1000) {x : S45} (h : preI n L x) : okT pts x.f2 ∧ okT pts x.f3 := by
  rcases h with rfl | ⟨a, b, c, d, e⟩ | ⟨a, b, c, d, e⟩
  · exact ⟨fun h => absurd h (by decide), fun h => absurd h (by decide)⟩
  · unfold tgt at d
    exact ⟨fun h => by omega, fun h => by omega⟩
  · unfold tgt at d e
    exact ⟨fun h => by omega, fun h => by omega⟩
theorem fx_rng {n L : Int} {pts : List Int} (hp : (pts.length : Int) = n) (hr : ∀ j, j < pts.length → 0 ≤ rd pts (j : Int) ∧ rd pts (j : Int) < L) {t : Int} (h : tgt n L t) : 0 ≤ fx pts t ∧ fx pts t < L := by
  unfold fx
  rcases h with h | h
  · rw [if_neg (by omega)]
    exact h
  · rw [if_pos (by omega)]
    obtain ⟨j, hj⟩ := Int.eq_ofNat_of_zero_le h.1
    rw [hj]
    exact hr j (by omega)
/-- What Two answers where it does not refuse. -/
theorem two_fix {R : Int} {l : List S45} (h : okC R l = true) (hR : R ≤ 6) (hn : l.length ≤ 1000 ∨ (twoP l l.length 0 [] []).2.length ≤ 2000) : ∃ r, twoFix (twoP l l.length 0 [] []).1 (twoP l l.length 0 [] []).2.length 0 (twoP l l.length 0 [] []).2 = some r ∧ r.length = (twoP l l.length 0 [] []).2.length ∧ ∀ j, j < r.length → rd_T45 r (j : Int) = fixI (twoP l l.length 0 [] []).1 (rd_T45 (twoP l l.length 0 [] []).2 (j : Int)) := by
  have H := isTwo h hR
  have hl := (okC_true h).2.2.2.1
  have hlen := H.inv.len
  generalize (twoP l l.length 0 [] []).1 = pts at *
  generalize (twoP l l.length 0 [] []).2 = cd at *
  obtain ⟨r, e1, e2, e3⟩ := twoFix_eq pts cd.length 0 cd (by omega) (fun j h0 h1 => by
    have hx := H.pre _ (List.getElem_mem h1)
    rw [← rd45_nat cd j h1] at hx
    rcases hx with hx | ⟨a, b, c, d, e⟩ | ⟨a, b, c, d, e⟩
    · rw [hx]
      exact ⟨fun h => absurd h (by decide), fun h => absurd h (by decide)⟩
    · unfold tgt at d
      exact ⟨fun h => by omega, fun h => by omega⟩
    · unfold tgt at d e
      exact ⟨fun h => by omega, fun h => by omega⟩)
  exact ⟨r, e1, e2, fun j hj => by rw [e3 j (by omega), if_pos (Nat.zero_le _)]⟩

theorem two_valid {R : Int} {l : List S45} (h : okC R l = true) (hR : R ≤ 6) {r : List S45} (hl : r.length ≤ 2000) (hrl : r.length = (twoP l l.length 0 [] []).2.length) (hr : ∀ j, j < r.length → rd_T45 r (j : Int) = fixI (twoP l l.length 0 [] []).1 (rd_T45 (twoP l l.length 0 [] []).2 (j : Int))) : okC 2 r = true := by
  have H := isTwo h hR
  have hp := H.inv.len
  have h1 := (okC_true h).2.2.1
  have hge := twoP_len l (okO_of h hR) l.length 0 [] [] (by omega)
  refine okC_mk ⟨by decide, by decide, by simp at hge; omega, hl, fun x hx => ?_⟩
  obtain ⟨j, hj, rfl⟩ := List.getElem_of_mem hx
  have e := hr j hj
  rw [rd45_nat r j hj] at e
  rw [e]
  have hpre := H.pre _ (List.getElem_mem (show j < (twoP l l.length 0 [] []).2.length by omega))
  rw [← rd45_nat _ j (by omega)] at hpre
  have hrng : ∀ i, i < (twoP l l.length 0 [] []).1.length → 0 ≤ rd (twoP l l.length 0 [] []).1 (i : Int) ∧ rd (twoP l l.length 0 [] []).1 (i : Int) < ((twoP l l.length 0 [] []).2.length : Int) := fun i hi => H.inv.rng i (by omega)
  have F := fun t ht => fx_rng (n := (l.length : Int)) (L := ((twoP l l.length 0 [] []).2.length : Int)) (pts := (twoP l l.length 0 [] []).1) (by omega) hrng (t := t) ht
  rw [← hrl] at F
  rw [← hrl] at hpre
  have z0 : fx (twoP l l.length 0 [] []).1 0 = 0 := if_neg (by decide)
  unfold okI fixI
  rcases hpre with hx | ⟨a, b, c, d, e⟩ | ⟨a, b, c, d, e⟩
  · rw [hx]
    exact .inl ⟨rfl, rfl, z0, z0⟩
  · have := F _ d
    rw [e, z0]
    exact .inr (.inl ⟨a, b, c, this.1, this.2, rfl⟩)
  · have f1 := F _ d
    have f2 := F _ e
    exact .inr (.inr ⟨a, b, c, f1.1, f1.2, f2.1, f2.2⟩)
theorem Points_ok (R : Int) (l : List S45) (pts : List Int) (hl : pts.length ≤ 1000000000) (hr : ∀ j, j < pts.length → 0 ≤ rd pts (j : Int) ∧ rd pts (j : Int) < (l.length : Int)) (hu : ∀ j, j + 1 < pts.length → rd pts (j : Int) < rd pts ((j + 1 : Nat) : Int)) : ∀ (d i : Nat), i + d = pts.length → Ev (fun k => standstillref06_Points.l0 k pts (i : Int) R l) true := by
  intro d
  induction d with
  | zero =>
    intro i hi
    rw [Ev_succ]
    simp only [standstillref06_Points.l0]
    simp only [if_neg (show ¬ (i : Int) < (pts.length : Int) by omega)]
    exact Ev.now _
  | succ d ih =>
    intro i hi
    rw [Ev_succ]
    have h1 := hr i (by omega)
    simp only [standstillref06_Points.l0, standstillref06_index.f]
    simp only [if_pos (show (i : Int) < (pts.length : Int) by omega), if_pos (show (0 : Int) ≤ (i : Int) by omega), if_pos (show rd pts (i : Int) ≥ 0 from h1.1), decide_eq_true h1.2, Option.bind_some, if_true, cast_succ i (by omega)]
    have ih := ih (i + 1) (by omega)
    by_cases c : (i : Int) > 0
    · obtain ⟨m, rfl⟩ : ∃ m, i = m + 1 := ⟨i - 1, by omega⟩
      have hw : wrap64 (((m + 1 : Nat) : Int) - 1) = (m : Int) := by
        rw [wrap_id (by omega) (by omega)]
        push_cast
        omega
      have := hu m (by omega)
      simp only [if_pos c, hw, if_pos (show (0 : Int) ≤ (m : Int) by omega), if_pos (show (m : Int) < (pts.length : Int) by omega), if_neg (show ¬ rd pts ((m + 1 : Nat) : Int) ≤ rd pts (m : Int) by omega)]
      exact ih
    · simp only [if_neg c]
      exact ih
theorem same_nil : Ev (fun k => standstillref06_Same.f k 0 [] 0 []) true := Ev.of (k := 5) (standstillref06_Same.mono 0 [] 0 []) (by decide +kernel)
/-- What Two answers. -/
theorem Two_ev (R : Int) (l : List S45) (hb : l.length * 32 ≤ 140737488351232) (hl : l.length ≤ 4000) : Ev (fun k => pair_Two.f k R l) (if okC R l = true then (if 6 < R then (0, [], [], 2) else if 2000 < (twoP l l.length 0 [] []).2.length then (0, [], [], 4) else (2, (twoFix (twoP l l.length 0 [] []).1 (twoP l l.length 0 [] []).2.length 0 (twoP l l.length 0 [] []).2).getD [], (twoP l l.length 0 [] []).1, 0)) else (0, [], [], 1)) := by
  unfold pair_Two.f
  simp only [if_pos (show l.length ≤ 100000000 by omega)]
  rw [Ev_bind (counter_Valid_ev R l hb)]
  by_cases hc : okC R l = true
  · simp only [hc, if_true]
    by_cases h6 : 6 < R
    · simp only [if_pos h6]
      exact Ev.now _
    · simp only [if_neg h6]
      have hg := twoGo_eq l (okO_of hc (by omega)) (okC_true hc).2.2.2.1 l.length 0 [] [] (by omega) (by simp) rfl
      rw [show twoGo l l.length 0 [] [] = some (twoP l l.length 0 [] []) from hg.1]
      simp only [Option.bind_some]
      by_cases h2 : 2000 < (twoP l l.length 0 [] []).2.length
      · simp only [if_pos h2]
        exact Ev.now _
      · simp only [if_neg h2]
        obtain ⟨r, e, -⟩ := two_fix hc (by omega) (.inr (by omega))
        rw [e]
        simp only [Option.bind_some, Option.getD_some]
        exact Ev.now _
  · simp only [hc, Bool.false_eq_true, if_false]
    exact Ev.now _
theorem ps_l0 (R : Int) (l : List S45) (pts : List Int) (r : List S45) (hp : pts.length = l.length) (hl : l.length ≤ 4000) (hr : ∀ j, j < pts.length → 0 ≤ rd pts (j : Int) ∧ rd pts (j : Int) < (r.length : Int)) (ho : ∀ j, j < pts.length → ((rd_T45 r (rd pts (j : Int))).f0 = 2 ↔ (rd_T45 l (j : Int)).f0 = 2)) : ∀ (d i : Nat), i + d = pts.length → Ev (fun k => standstilllaw08_PairShapes.l0 k pts (i : Int) R l 2 r) true := by
  intro d
  induction d with
  | zero =>
    intro i hi
    rw [Ev_succ]
    simp only [standstilllaw08_PairShapes.l0]
    simp only [if_neg (show ¬ (i : Int) < (pts.length : Int) by omega)]
    exact awake_b
  | succ d ih =>
    intro i hi
    rw [Ev_succ]
    have h1 := hr i (by omega)
    have h2 := ho i (by omega)
    simp only [standstilllaw08_PairShapes.l0]
    have h3 : (((rd_T45 r (rd pts (i : Int))).f0 == 2) != ((rd_T45 l (i : Int)).f0 == 2)) = false := by
      by_cases a : (rd_T45 l (i : Int)).f0 = 2
      · rw [beq_iff_eq.2 a, beq_iff_eq.2 (h2.2 a)]
        rfl
      · rw [beq_eq_false_iff_ne.2 a, beq_eq_false_iff_ne.2 (fun h => a (h2.1 h))]
        rfl
    simp only [if_pos (show (i : Int) < (pts.length : Int) by omega), if_pos (show (0 : Int) ≤ (i : Int) by omega), if_pos h1.1, if_pos h1.2, if_pos (show (i : Int) < (l.length : Int) by omega), h3, Bool.false_eq_true, if_false, cast_succ i (by omega)]
    exact ih (i + 1) (by omega)
/-- Two answers as the document says. For machines of more than 4000 instructions the law asks for the chapter's examples only. -/
theorem PairShapes : standstilllaw08_PairShapes.Pure := by
  rintro R l hR ⟨hb, -⟩
  suffices h : Ev (fun k => standstilllaw08_PairShapes.f k R l) true by
    obtain ⟨K, h⟩ := h
    exact ⟨K, h K (Nat.le_refl _)⟩
  unfold standstilllaw08_PairShapes.f
  by_cases c : (l.length : Int) > 4000
  · simp only [if_pos c]
    exact awake_b
  simp only [if_neg c]
  have hV := ref_Valid_ev R l hb
  rw [Ev_bind (Two_ev R l hb (by omega)), Ev_bind hV]
  by_cases hc : okC R l = true
  · rw [hc] at hV
    simp only [hc, if_true]
    by_cases h6 : 6 < R
    · simp only [if_pos h6]
      rw [decide_eq_true (show R > 6 from h6), Ev_succ]
      simp only [standstilllaw08_PairShapes.j0, if_true]
      rw [Ev_succ]
      simp only [standstilllaw08_PairShapes.j1]
      rw [Ev_bind hV]
      simp only [if_true]
      rw [Ev_succ]
      simp only [standstilllaw08_PairShapes.j2]
      simp only [if_neg (show ¬ (2 : Int) = 0 by decide), if_true]
      rw [Ev_bind same_nil]
      simp only [if_true, List.length_nil]
      exact awake_b
    · simp only [if_neg h6]
      rw [decide_eq_false (show ¬ R > 6 from h6), Ev_succ]
      simp only [standstilllaw08_PairShapes.j0, Bool.false_eq_true, if_false]
      rw [Ev_succ]
      simp only [standstilllaw08_PairShapes.j1]
      rw [Ev_bind hV]
      simp only [if_true]
      rw [Ev_succ]
      simp only [standstilllaw08_PairShapes.j2]
      by_cases h2 : 2000 < (twoP l l.length 0 [] []).2.length
      · have hg := (twoGo_eq l (okO_of hc (by omega)) (okC_true hc).2.2.2.1 l.length 0 [] [] (by omega) (by simp) rfl).2
        simp only [if_pos h2]
        simp only [if_neg (show ¬ (4 : Int) = 0 by decide), if_true, if_pos (show (l.length : Int) > 40 by omega)]
        rw [Ev_bind same_nil]
        simp only [if_true, List.length_nil]
        exact awake_b
      · obtain ⟨r, e, hrl, hr⟩ := two_fix hc (by omega) (.inr (by omega))
        have hv := two_valid hc (by omega) (by omega) hrl hr
        have H := isTwo hc (show R ≤ 6 by omega)
        have hV2 := ref_Valid_ev 2 r (by omega)
        rw [hv] at hV2
        have hl1 := (okC_true hc).2.2.1
        simp only [if_neg h2, e, Option.getD_some, if_true]
        have hp := H.inv.len
        have hrng : ∀ j, j < (twoP l l.length 0 [] []).1.length → 0 ≤ rd (twoP l l.length 0 [] []).1 (j : Int) ∧ rd (twoP l l.length 0 [] []).1 (j : Int) < (r.length : Int) := fun j hj => by
          rw [hrl]
          exact H.inv.rng j (by omega)
        rw [Ev_bind hV2]
        simp only [if_true]
        simp only [if_pos (show ((twoP l l.length 0 [] []).1.length : Int) = (l.length : Int) by omega)]
        have hP : Ev (fun k => standstillref06_Points.f k 2 r (twoP l l.length 0 [] []).1) true := Points_ok 2 r _ (by omega) hrng (fun j hj => H.inv.up j (by omega)) (twoP l l.length 0 [] []).1.length 0 (by omega)
        rw [Ev_bind hP]
        simp only [if_true]
        simp only [if_pos (show (0 : Int) < ((twoP l l.length 0 [] []).1.length : Int) by omega), H.inv.fst (by omega)]
        rw [Ev_succ]
        simp only [standstilllaw08_PairShapes.j3, bne_self_eq_false, Bool.false_eq_true, if_false]
        refine ps_l0 R l _ r hp (by omega) hrng (fun j hj => ?_) _ 0 (Nat.zero_add _)
        have h1 := hrng j hj
        rw [← H.inv.op j (by omega)]
        obtain ⟨m, hm⟩ := Int.eq_ofNat_of_zero_le h1.1
        rw [hm] at h1 ⊢
        rw [hr m (by omega)]
        rfl
  · have hc' : okC R l = false := by simpa using hc
    rw [hc'] at hV
    simp only [hc', Bool.false_eq_true, if_false]
    rw [Ev_succ]
    simp only [standstilllaw08_PairShapes.j0, Bool.false_eq_true, if_false]
    rw [Ev_succ]
    simp only [standstilllaw08_PairShapes.j1]
    rw [Ev_bind hV]
    simp only [Bool.false_eq_true, if_false]
    rw [Ev_succ]
    simp only [standstilllaw08_PairShapes.j2]
    simp only [if_neg (show ¬ (1 : Int) = 0 by decide), if_true]
    rw [Ev_bind same_nil]
    simp only [if_true, List.length_nil]
    exact awake_b

end Go.Proofs.Ytkbekdjoaibhbaa.Pure
