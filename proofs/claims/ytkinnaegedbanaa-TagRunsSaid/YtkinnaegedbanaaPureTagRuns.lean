/- The plain law of TagRuns: Valid, Fits, Step and Run answer as the reference does. No condition beyond what every argument has (numbers of their kind, lists within memory). -/
import Derived.Test.YtkinnaegedbanaaAid
import Derived.Test.YtkinnaegedbanaaPTagRunsx6
namespace Go.Proofs.Ytkinnaegedbanaa.Pure
open Go.RowKit Go.Proofs.Ytkinnaegedbanaa.PTagRuns Go.Proofs.YtkinnaegedbanaaW.PrintWords Go.Proofs.YtkinnaegedbanaaW.PrintLast Go.Proofs.YtkinnaegedbanaaW.PrintMore Go.Proofs.YtkinnaegedbanaaAid
set_option linter.unusedVariables false
set_option linter.unusedSimpArgs false

theorem wrap_nat (i : Nat) (h : i ≤ 4611686018427387904) : wrap64 ((i : Int) + 1) = ((i + 1 : Nat) : Int) := by
  rw [wrap_id (by omega) (by omega)]; omega
theorem getD_lt {α : Type} (l : List α) {i : Nat} (d : α) (h : i < l.length) : l.getD i d = l[i] := by
  simp [List.getD_eq_getElem?_getD, h]
theorem rdL (l : List (List Int)) (i : Nat) (h : i < l.length) : rd_L1 l (i : Int) = l[i] := by
  simp [rd_L1, List.getD_eq_getElem?_getD, h]
/-! Letters of an alphabet. -/
def lok (n x : Int) : Bool := decide (0 ≤ x) && decide (x < n)
theorem tl_loop (n : Int) (l : List Int) (hl : l.length ≤ 1000000000000000) : ∀ (d i : Nat), i + d = l.length → Ev (fun k => tag_letters.l0 k n l (l.length : Int) (i : Int)) ((l.drop i).all (lok n)) := by
  intro d
  induction d with
  | zero =>
    intro i hi
    rw [Ev_succ]
    simp only [tag_letters.l0, Ev_ite, Ev_some, Ev_none]
    rw [if_neg (by omega), List.drop_eq_nil_of_le (by omega)]
    rfl
  | succ d ih =>
    intro i hi
    have hlt : i < l.length := by omega
    have ih := ih (i + 1) (by omega)
    rw [drop_cons l i hlt, List.all_cons, Ev_succ]
    simp only [tag_letters.l0, Ev_ite, Ev_some, Ev_none]
    rw [if_pos (by omega), if_pos (by omega), if_pos (by omega), rd_nat l i hlt, wrap_nat i (by omega)]
    by_cases h0 : l[i] < 0
    · rw [if_pos h0, lok, decide_eq_false (by omega)]; rfl
    · rw [if_neg h0]
      by_cases h1 : l[i] ≥ n
      · rw [if_pos h1, lok, decide_eq_true (by omega), decide_eq_false (by omega)]; rfl
      · rw [if_neg h1, lok, decide_eq_true (by omega), decide_eq_true (by omega)]
        exact ih
theorem tag_letters_ev (n : Int) (l : List Int) (hl : l.length ≤ 1000000000000000) : Ev (fun k => tag_letters.f k l n) (l.all (lok n)) := tl_loop n l hl l.length 0 (by omega)
theorem rl_loop (n : Int) (l : List Int) (hl : l.length ≤ 1000000000000000) : ∀ (d i : Nat), i + d = l.length → Ev (fun k => standstillref07_letters.l0 k l n (i : Int)) ((l.drop i).all (lok n)) := by
  intro d
  induction d with
  | zero =>
    intro i hi
    rw [Ev_succ]
    simp only [standstillref07_letters.l0, Ev_ite, Ev_some, Ev_none]
    rw [if_neg (by omega), List.drop_eq_nil_of_le (by omega)]
    rfl
  | succ d ih =>
    intro i hi
    have hlt : i < l.length := by omega
    have ih := ih (i + 1) (by omega)
    rw [drop_cons l i hlt, List.all_cons, Ev_succ]
    simp only [standstillref07_letters.l0, Ev_ite, Ev_some, Ev_none]
    have hgo : lok n l[i] = true → Ev (fun k => standstillref07_letters.l0 k l n (wrap64 ((i : Int) + 1))) (lok n l[i] && (l.drop (i + 1)).all (lok n)) := by
      intro h
      rw [wrap_nat i (by omega), h, Bool.true_and]
      exact ih
    have hno : lok n l[i] = false → (false = (lok n l[i] && (l.drop (i + 1)).all (lok n))) := by
      intro h
      rw [h, Bool.false_and]
    rw [rd_nat l i hlt]
    generalize l[i] = x at hgo hno ⊢
    simp only [lok, Bool.and_eq_true, decide_eq_true_eq, Bool.and_eq_false_iff, decide_eq_false_iff_not] at hgo hno
    repeat' split
    all_goals first | (exfalso; omega) | (refine hgo ?_; omega) | (refine hno ?_; omega)
theorem ref_letters_ev (n : Int) (l : List Int) (hl : l.length ≤ 1000000000000000) : Ev (fun k => standstillref07_letters.f k l n) (l.all (lok n)) := rl_loop n l hl l.length 0 (by omega)
/-! Tag systems. -/
def wok (n : Int) (w : List Int) : Bool := decide (w.length ≤ 200) && w.all (lok n)
def okT (D : Int) (rules : List (List Int)) (stops : List Bool) : Bool := decide (1 ≤ D ∧ D ≤ 4 ∧ 1 ≤ rules.length ∧ rules.length ≤ 600 ∧ stops.length = rules.length) && rules.all (wok rules.length)
theorem tv_loop (rules : List (List Int)) (hn : rules.length ≤ 600) : ∀ (d i : Nat), i + d = rules.length → Ev (fun k => tag_Valid.l0 k (rules.length : Int) rules (rules.length : Int) (i : Int)) ((rules.drop i).all (wok rules.length)) := by
  intro d
  induction d with
  | zero =>
    intro i hi
    rw [Ev_succ]
    simp only [tag_Valid.l0, Ev_ite, Ev_some, Ev_none]
    rw [if_neg (by omega), List.drop_eq_nil_of_le (by omega)]
    rfl
  | succ d ih =>
    intro i hi
    have hlt : i < rules.length := by omega
    have ih := ih (i + 1) (by omega)
    rw [drop_cons rules i hlt, List.all_cons, Ev_succ]
    simp only [tag_Valid.l0, Ev_ite, Ev_some, Ev_none]
    rw [if_pos (by omega), if_pos (by omega), if_pos (by omega), rdL rules i hlt, wrap_nat i (by omega)]
    by_cases h0 : ((rules[i].length : Int)) > 200
    · rw [if_pos h0, wok, decide_eq_false (by omega)]; rfl
    · rw [if_neg h0, Ev_bind (tag_letters_ev (rules.length : Int) rules[i] (by omega))]
      simp only [Ev_ite, Ev_some]
      rw [wok, decide_eq_true (by omega), Bool.true_and]
      by_cases h1 : rules[i].all (lok rules.length) = true
      · rw [if_pos h1, h1, Bool.true_and]; exact ih
      · rw [if_neg h1, Bool.eq_false_iff.2 h1, Bool.false_and]
theorem tag_Valid_ev (D : Int) (rules : List (List Int)) (stops : List Bool) : Ev (fun k => tag_Valid.f k D rules stops) (okT D rules stops) := by
  unfold tag_Valid.f
  have hj : ∀ b, (b = true → ¬ (1 ≤ D ∧ D ≤ 4 ∧ 1 ≤ rules.length ∧ rules.length ≤ 600 ∧ stops.length = rules.length)) → (b = false → (1 ≤ D ∧ D ≤ 4 ∧ 1 ≤ rules.length ∧ rules.length ≤ 600 ∧ stops.length = rules.length)) → Ev (fun k => tag_Valid.j0 k (rules.length : Int) b D rules stops) (okT D rules stops) := by
    intro b h1 h2
    rw [Ev_succ]
    simp only [tag_Valid.j0, Ev_ite, Ev_some]
    cases b with
    | true => rw [if_pos rfl, okT, decide_eq_false (h1 rfl), Bool.false_and]
    | false =>
      rw [if_neg (by simp), okT, decide_eq_true (h2 rfl), Bool.true_and]
      exact tv_loop rules (h2 rfl).2.2.2.1 rules.length 0 (by omega)
  simp only [Ev_ite]
  repeat' split
  all_goals refine hj _ (fun h => ?_) (fun h => ?_)
  all_goals first | (cases h; done) | omega | (simp at h; omega)
theorem rv_loop (D : Int) (rules : List (List Int)) (stops : List Bool) (hn : rules.length ≤ 600) : ∀ (d i : Nat), i + d = rules.length → Ev (fun k => standstillref07_Valid.l0 k (rules.length : Int) (i : Int) D rules stops) ((rules.drop i).all (wok rules.length)) := by
  intro d
  induction d with
  | zero =>
    intro i hi
    rw [Ev_succ]
    simp only [standstillref07_Valid.l0, Ev_ite, Ev_some, Ev_none]
    rw [if_neg (by omega), List.drop_eq_nil_of_le (by omega)]
    rfl
  | succ d ih =>
    intro i hi
    have hlt : i < rules.length := by omega
    have ih := ih (i + 1) (by omega)
    rw [drop_cons rules i hlt, List.all_cons, Ev_succ]
    simp only [standstillref07_Valid.l0, Ev_ite, Ev_some, Ev_none]
    rw [if_pos (by omega), if_pos (by omega), if_pos (by omega), rdL rules i hlt, wrap_nat i (by omega)]
    by_cases h0 : ((rules[i].length : Int)) > 200
    · rw [if_pos h0, wok, decide_eq_false (by omega)]; rfl
    · rw [if_neg h0, Ev_bind (ref_letters_ev (rules.length : Int) rules[i] (by omega))]
      simp only [Ev_ite, Ev_some]
      rw [wok, decide_eq_true (by omega), Bool.true_and]
      by_cases h1 : rules[i].all (lok rules.length) = true
      · rw [if_pos h1, h1, Bool.true_and]; exact ih
      · rw [if_neg h1, Bool.eq_false_iff.2 h1, Bool.false_and]
theorem ref_Valid_ev (D : Int) (rules : List (List Int)) (stops : List Bool) : Ev (fun k => standstillref07_Valid.f k D rules stops) (okT D rules stops) := by
  unfold standstillref07_Valid.f
  have hj : ∀ b, (b = true → ¬ (1 ≤ D ∧ D ≤ 4 ∧ 1 ≤ rules.length ∧ rules.length ≤ 600 ∧ stops.length = rules.length)) → (b = false → (1 ≤ D ∧ D ≤ 4 ∧ 1 ≤ rules.length ∧ rules.length ≤ 600 ∧ stops.length = rules.length)) → Ev (fun k => standstillref07_Valid.j0 k (rules.length : Int) b D rules stops) (okT D rules stops) := by
    intro b h1 h2
    rw [Ev_succ]
    simp only [standstillref07_Valid.j0, Ev_ite, Ev_some]
    cases b with
    | true => rw [if_pos rfl, okT, decide_eq_false (h1 rfl), Bool.false_and]
    | false =>
      rw [if_neg (by simp), okT, decide_eq_true (h2 rfl), Bool.true_and]
      exact rv_loop D rules stops (h2 rfl).2.2.2.1 rules.length 0 (by omega)
  simp only [Ev_ite]
  repeat' split
  all_goals refine hj _ (fun h => ?_) (fun h => ?_)
  all_goals first | (cases h; done) | omega | (simp at h; omega)
theorem okT_true {D : Int} {rules : List (List Int)} {stops : List Bool} (h : okT D rules stops = true) : 1 ≤ D ∧ D ≤ 4 ∧ 1 ≤ rules.length ∧ rules.length ≤ 600 ∧ stops.length = rules.length ∧ ∀ w ∈ rules, w.length ≤ 200 ∧ ∀ x ∈ w, 0 ≤ x ∧ x < rules.length := by
  simp only [okT, wok, lok, Bool.and_eq_true, decide_eq_true_eq, List.all_eq_true] at h
  exact ⟨h.1.1, h.1.2.1, h.1.2.2.1, h.1.2.2.2.1, h.1.2.2.2.2, h.2⟩
def okQ (D : Int) (rules : List (List Int)) (stops : List Bool) (q : List Int) : Bool := okT D rules stops && (decide (q.length ≤ 100000) && q.all (lok rules.length))
theorem tag_Fits_ev (D : Int) (rules : List (List Int)) (stops : List Bool) (q : List Int) : Ev (fun k => tag_Fits.f k D rules stops q) (okQ D rules stops q) := by
  unfold tag_Fits.f
  rw [Ev_bind (tag_Valid_ev D rules stops)]
  simp only [Ev_ite, Ev_some]
  by_cases hv : okT D rules stops = true
  · rw [if_pos hv, okQ, hv, Bool.true_and]
    by_cases hl : (q.length : Int) ≤ 100000
    · rw [if_pos hl, Ev_bind (tag_letters_ev _ q (by omega)), Ev_some, decide_eq_true (by omega), Bool.true_and]
    · rw [if_neg hl, decide_eq_false (by omega), Bool.false_and]
  · rw [if_neg hv, okQ, Bool.eq_false_iff.2 hv, Bool.false_and]
theorem ref_Fits_ev (D : Int) (rules : List (List Int)) (stops : List Bool) (q : List Int) : Ev (fun k => standstillref07_Fits.f k D rules stops q) (okQ D rules stops q) := by
  unfold standstillref07_Fits.f
  rw [Ev_bind (ref_Valid_ev D rules stops)]
  simp only [Ev_ite, Ev_some]
  by_cases hv : okT D rules stops = true
  · rw [if_pos hv, okQ, hv, Bool.true_and]
    by_cases hl : (q.length : Int) ≤ 100000
    · rw [if_pos hl, Ev_bind (ref_letters_ev _ q (by omega)), Ev_some, decide_eq_true (by omega), Bool.true_and]
    · rw [if_neg hl, decide_eq_false (by omega), Bool.false_and]
  · rw [if_neg hv, okQ, Bool.eq_false_iff.2 hv, Bool.false_and]
theorem okQ_true {D : Int} {rules : List (List Int)} {stops : List Bool} {q : List Int} (h : okQ D rules stops q = true) : okT D rules stops = true ∧ q.length ≤ 100000 ∧ ∀ x ∈ q, 0 ≤ x ∧ x < rules.length := by
  simp only [okQ, lok, Bool.and_eq_true, decide_eq_true_eq, List.all_eq_true] at h
  exact ⟨h.1, h.2.1, h.2.2⟩
/-! Equal lists. -/
theorem same_loop (a b : List Int) (hl : a.length = b.length) (hs : a.length ≤ 1000000000000000) : ∀ (d i : Nat), i + d = a.length → Ev (fun k => standstillref07_Same.l0 k a b (i : Int)) (decide (a.drop i = b.drop i)) := by
  intro d
  induction d with
  | zero =>
    intro i hi
    rw [Ev_succ]
    simp only [standstillref07_Same.l0, Ev_ite, Ev_some, Ev_none]
    rw [if_neg (by omega), List.drop_eq_nil_of_le (by omega), List.drop_eq_nil_of_le (by omega)]
    rfl
  | succ d ih =>
    intro i hi
    have ha : i < a.length := by omega
    have hb : i < b.length := by omega
    have ih := ih (i + 1) (by omega)
    rw [drop_cons a i ha, drop_cons b i hb, Ev_succ]
    simp only [standstillref07_Same.l0, Ev_ite, Ev_some, Ev_none]
    rw [if_pos (by omega), if_pos (by omega), if_pos (by omega), rd_nat a i ha, rd_nat b i hb, wrap_nat i (by omega)]
    generalize List.drop (i + 1) a = A at ih ⊢
    generalize List.drop (i + 1) b = B at ih ⊢
    generalize a[i] = x
    generalize b[i] = y
    by_cases h : x = y
    · rw [if_pos h]; simpa [h] using ih
    · rw [if_neg h]; simp [h]
theorem Same_ev (a b : List Int) (hs : a.length ≤ 1000000000000000) : Ev (fun k => standstillref07_Same.f k a b) (decide (a = b)) := by
  unfold standstillref07_Same.f
  simp only [Ev_ite, Ev_some]
  by_cases h : (a.length : Int) = (b.length : Int)
  · rw [if_pos h]
    exact same_loop a b (by omega) hs a.length 0 (by omega)
  · rw [if_neg h, decide_eq_false]
    rintro rfl
    exact h rfl

/-! Runs in parts. -/
def qok (n : Nat) (q : List Int) : Prop := q.length ≤ 100000 ∧ ∀ x ∈ q, 0 ≤ x ∧ x < n
theorem rd_mem {l : List Int} (h : 0 < l.length) : rd l 0 ∈ l := by
  have : rd l 0 = l[0] := by have := rd_nat l 0 h; simpa using this
  rw [this]; exact List.getElem_mem h
theorem rdL_mem {l : List (List Int)} {x : Int} (h0 : 0 ≤ x) (h1 : x < l.length) : rd_L1 l x ∈ l := by
  have e : rd_L1 l x = l[x.toNat]'(by omega) := by
    have := rdL l x.toNat (by omega)
    rwa [Int.toNat_of_nonneg h0] at this
  rw [e]; exact List.getElem_mem _
theorem qok_drop {n : Nat} {q w : List Int} {d : Nat} (hq : ∀ x ∈ q, 0 ≤ x ∧ x < (n : Int)) (hw : ∀ x ∈ w, 0 ≤ x ∧ x < (n : Int)) : ∀ x ∈ (q ++ w).drop d, 0 ≤ x ∧ x < (n : Int) := by
  intro x hx
  rcases List.mem_append.1 (List.mem_of_mem_drop hx) with h | h
  · exact hq x h
  · exact hw x h
theorem trun_ok {D : Int} {rules : List (List Int)} {stops : List Bool} (hT : okT D rules stops = true) : ∀ (n : Nat) (q : List Int) (i : Int), qok rules.length q → ∃ z, trun D rules stops n q i = some z ∧ ((z.2.2 = 0 ∧ qok rules.length z.1 ∧ i ≤ z.2.1 ∧ z.2.1 ≤ i + n) ∨ z = ([], 0, 4)) := by
  obtain ⟨hD0, hD1, hn0, hn1, hs, hw⟩ := okT_true hT
  intro n
  induction n with
  | zero => intro q i hq; exact ⟨_, rfl, Or.inl ⟨rfl, hq, by simp, by simp⟩⟩
  | succ n ih =>
    intro q i hq
    simp only [trun]
    by_cases h1 : (q.length : Int) < D
    · rw [if_pos h1]; exact ⟨_, rfl, Or.inl ⟨rfl, hq, by simp, by simp; omega⟩⟩
    · rw [if_neg h1]
      have hm := hq.2 _ (rd_mem (l := q) (by omega))
      rw [if_pos (by rw [hs]; exact hm)]
      by_cases h2 : rdOf false stops (rd q 0) = true
      · rw [if_pos h2]; exact ⟨_, rfl, Or.inl ⟨rfl, hq, by simp, by simp; omega⟩⟩
      · rw [if_neg h2]
        obtain ⟨w1, w2⟩ := hw _ (rdL_mem hm.1 hm.2)
        rw [if_pos ⟨hm.2, by omega⟩]
        by_cases h3 : (((q ++ rd_L1 rules (rd q 0)).drop D.toNat).length : Int) > 100000
        · rw [if_pos h3]; exact ⟨_, rfl, Or.inr rfl⟩
        · rw [if_neg h3]
          obtain ⟨z, hz, hc⟩ := ih ((q ++ rd_L1 rules (rd q 0)).drop D.toNat) (i + 1) ⟨by omega, qok_drop hq.2 w2⟩
          refine ⟨z, hz, ?_⟩
          rcases hc with ⟨a, b, c, d⟩ | h
          · exact Or.inl ⟨a, b, by omega, by push_cast; omega⟩
          · exact Or.inr h
theorem trun_add {D : Int} {rules : List (List Int)} {stops : List Bool} (k : Nat) : ∀ (n : Nat) (q : List Int) (i : Int) (q' : List Int) (i' : Int), trun D rules stops n q i = some (q', i', 0) → trun D rules stops (n + k) q i = trun D rules stops k q' i' := by
  intro n
  induction n with
  | zero =>
    intro q i q' i' h
    simp only [trun, Option.some.injEq, Prod.mk.injEq] at h
    obtain ⟨rfl, rfl, _⟩ := h
    rw [Nat.zero_add]
  | succ n ih =>
    intro q i q' i' h
    rw [show n + 1 + k = (n + k) + 1 by omega]
    simp only [trun] at h ⊢
    by_cases h1 : (q.length : Int) < D
    · rw [if_pos h1] at h ⊢
      simp only [Option.some.injEq, Prod.mk.injEq] at h
      obtain ⟨rfl, rfl, _⟩ := h
      cases k with
      | zero => rfl
      | succ k => simp only [trun]; rw [if_pos h1]
    · rw [if_neg h1] at h ⊢
      by_cases hx : 0 ≤ rd q 0 ∧ rd q 0 < (stops.length : Int)
      rotate_left
      · rw [if_neg hx] at h; cases h
      rw [if_pos hx] at h ⊢
      by_cases h2 : rdOf false stops (rd q 0) = true
      · rw [if_pos h2] at h ⊢
        simp only [Option.some.injEq, Prod.mk.injEq] at h
        obtain ⟨rfl, rfl, _⟩ := h
        cases k with
        | zero => rfl
        | succ k => simp only [trun]; rw [if_neg h1, if_pos hx, if_pos h2]
      · rw [if_neg h2] at h ⊢
        by_cases hr : rd q 0 < (rules.length : Int) ∧ (rd_L1 rules (rd q 0)).length ≤ 1048576
        rotate_left
        · rw [if_neg hr] at h; cases h
        rw [if_pos hr] at h ⊢
        by_cases h3 : (((q ++ rd_L1 rules (rd q 0)).drop D.toNat).length : Int) > 100000
        · rw [if_pos h3] at h
          simp at h
        · rw [if_neg h3] at h ⊢
          exact ih _ _ _ _ h
theorem trun_bad {D : Int} {rules : List (List Int)} {stops : List Bool} (k : Nat) : ∀ (n : Nat) (q : List Int) (i : Int), trun D rules stops n q i = some ([], 0, 4) → trun D rules stops (n + k) q i = some ([], 0, 4) := by
  intro n
  induction n with
  | zero => intro q i h; simp [trun] at h
  | succ n ih =>
    intro q i h
    rw [show n + 1 + k = (n + k) + 1 by omega]
    simp only [trun] at h ⊢
    by_cases h1 : (q.length : Int) < D
    · rw [if_pos h1] at h; simp at h
    · rw [if_neg h1] at h ⊢
      by_cases hx : 0 ≤ rd q 0 ∧ rd q 0 < (stops.length : Int)
      rotate_left
      · rw [if_neg hx] at h; cases h
      rw [if_pos hx] at h ⊢
      by_cases h2 : rdOf false stops (rd q 0) = true
      · rw [if_pos h2] at h; simp at h
      · rw [if_neg h2] at h ⊢
        by_cases hr : rd q 0 < (rules.length : Int) ∧ (rd_L1 rules (rd q 0)).length ≤ 1048576
        rotate_left
        · rw [if_neg hr] at h; cases h
        rw [if_pos hr] at h ⊢
        by_cases h3 : (((q ++ rd_L1 rules (rd q 0)).drop D.toNat).length : Int) > 100000
        · rw [if_pos h3]
        · rw [if_neg h3] at h ⊢
          exact ih _ _ h
def shift (c : Int) (z : List Int × Int × Int) : List Int × Int × Int := if z.2.2 = 0 then (z.1, z.2.1 + c, z.2.2) else z
theorem trun_shift {D : Int} {rules : List (List Int)} {stops : List Bool} (c : Int) : ∀ (n : Nat) (q : List Int) (i : Int), trun D rules stops n q (i + c) = (trun D rules stops n q i).map (shift c) := by
  intro n
  induction n with
  | zero => intro q i; simp [trun, shift]
  | succ n ih =>
    intro q i
    simp only [trun]
    repeat' split
    all_goals first | rfl | (simp [shift]; done) | (rw [show i + c + 1 = i + 1 + c by omega]; exact ih _ _)
theorem tag_Run_ev {D : Int} {rules : List (List Int)} {stops : List Bool} {q : List Int} {n : Int} {z : List Int × Int × Int} (hQ : okQ D rules stops q = true) (h0 : 0 ≤ n) (h1 : n ≤ 1000000) (hz : trun D rules stops n.toNat q 0 = some z) : Ev (fun k => tag_Run.f k D rules stops q n) z := by
  unfold tag_Run.f
  rw [Ev_bind (tag_Fits_ev D rules stops q), hQ]
  obtain ⟨hT, hq, _⟩ := okQ_true hQ
  obtain ⟨hD0, hD1, _⟩ := okT_true hT
  simp only [if_true, Ev_ite]
  rw [if_neg (by omega), if_neg (by omega), if_pos ⟨by omega, by omega, by omega⟩, Ev_const]
  exact hz
theorem tag_Run_no {D : Int} {rules : List (List Int)} {stops : List Bool} {q : List Int} {n : Int} (hQ : ¬ okQ D rules stops q = true) : Ev (fun k => tag_Run.f k D rules stops q n) ([], 0, 1) := by
  unfold tag_Run.f
  rw [Ev_bind (tag_Fits_ev D rules stops q)]
  simp only [Ev_ite, Ev_some]
  rw [if_neg hQ]
  trivial
theorem okQ_mk {D : Int} {rules : List (List Int)} {stops : List Bool} {q : List Int} (hT : okT D rules stops = true) (hq : qok rules.length q) : okQ D rules stops q = true := by
  simp only [okQ, lok, Bool.and_eq_true, decide_eq_true_eq, List.all_eq_true]
  exact ⟨hT, hq.1, hq.2⟩
/-! The cyclic ones. -/

theorem wide_ev (D : Int) (rules : List (List Int)) (stops : List Bool) (q : List Int) : ∃ v, Ev (fun k => standstilllaw07_wide.f k D rules stops q) v ∧ (v = false → rules.length ≤ 700) := by
  have loop : ∀ (d i : Nat) (a : Int), i + d = rules.length → i ≤ 701 → ∃ v, Ev (fun k => standstilllaw07_wide.l0 k a (i : Int) D rules stops) v ∧ (v = false → rules.length ≤ 700) := by
    intro d
    induction d with
    | zero =>
      intro i a hi h7
      refine ⟨if a > 20000 then true else decide ((rules.length : Int) > 700), ?_, ?_⟩
      · rw [Ev_succ]
        simp only [standstilllaw07_wide.l0, Ev_ite, Ev_some, Ev_none]
        rw [if_neg (by omega)]
        split <;> rfl
      · split
        · intro h; cases h
        · intro h; have := of_decide_eq_false h; omega
    | succ d ih =>
      intro i a hi h7
      by_cases h : i ≤ 700
      · obtain ⟨v, hv, hv2⟩ := ih (i + 1) (wrap64 (a + ((rd_L1 rules i).length : Int))) (by omega) (by omega)
        refine ⟨v, ?_, hv2⟩
        rw [Ev_succ]
        simp only [standstilllaw07_wide.l0, Ev_ite, Ev_some, Ev_none]
        rw [if_pos (by omega), if_pos (by omega), if_pos (by omega), wrap_nat i (by omega)]
        exact hv
      · refine ⟨true, ?_, fun h => by cases h⟩
        rw [Ev_succ]
        simp only [standstilllaw07_wide.l0, Ev_ite, Ev_some, Ev_none]
        rw [if_pos (by omega), if_neg (by omega)]
        split
        · trivial
        · exact decide_eq_true (by omega)
  exact loop rules.length 0 _ (by omega) (by omega)
theorem awake_true : Ev (fun k => standstilllaw07_awake.f k) true := Ev.of (k := 60) standstilllaw07_awake.mono (by decide +kernel)

/-! The reference's steps and runs. -/
theorem ref_Stopped_eq {D : Int} {rules : List (List Int)} {stops : List Bool} {q : List Int} (hT : okT D rules stops = true) (hq : qok rules.length q) : standstillref07_Stopped.f D rules stops q = some (if (q.length : Int) < D then true else rdOf false stops (rd q 0)) := by
  obtain ⟨hD0, hD1, hn0, hn1, hs, hw⟩ := okT_true hT
  unfold standstillref07_Stopped.f
  by_cases h1 : (q.length : Int) < D
  · rw [if_pos h1, if_pos h1]
  · have hm := hq.2 _ (rd_mem (l := q) (by omega))
    rw [if_neg h1, if_neg h1, if_pos (by omega), if_pos hm.1, if_pos (by omega)]
/-- The queue after a step. -/
def tq (D : Int) (rules : List (List Int)) (q : List Int) : List Int := (q ++ rd_L1 rules (rd q 0)).drop D.toNat
theorem ref_Step_eq {D : Int} {rules : List (List Int)} {stops : List Bool} {q : List Int} (hT : okT D rules stops = true) (hq : qok rules.length q) (h : ¬ (q.length : Int) < D) : standstillref07_Step.f D rules stops q = if ((tq D rules q).length : Int) > 100000 then some ([], false) else some (tq D rules q, true) := by
  obtain ⟨hD0, hD1, hn0, hn1, hs, hw⟩ := okT_true hT
  have hm := hq.2 _ (rd_mem (l := q) (by omega))
  obtain ⟨w1, w2⟩ := hw _ (rdL_mem hm.1 hm.2)
  have hl := hq.1
  unfold standstillref07_Step.f
  rw [if_pos ⟨by omega, hm.1, hm.2⟩, if_pos ⟨by omega, by omega, by omega, by omega⟩]
  rfl
theorem tq_ok {D : Int} {rules : List (List Int)} {stops : List Bool} {q : List Int} (hT : okT D rules stops = true) (hq : qok rules.length q) (h : ¬ (q.length : Int) < D) (h2 : ¬ ((tq D rules q).length : Int) > 100000) : qok rules.length (tq D rules q) := by
  obtain ⟨hD0, hD1, hn0, hn1, hs, hw⟩ := okT_true hT
  have hm := hq.2 _ (rd_mem (l := q) (by omega))
  obtain ⟨w1, w2⟩ := hw _ (rdL_mem hm.1 hm.2)
  exact ⟨by omega, qok_drop hq.2 w2⟩
theorem trun_succ {D : Int} {rules : List (List Int)} {stops : List Bool} {q : List Int} (hT : okT D rules stops = true) (hq : qok rules.length q) (n : Nat) (i : Int) : trun D rules stops (n + 1) q i = if (q.length : Int) < D then some (q, i, 0) else if rdOf false stops (rd q 0) = true then some (q, i, 0) else if ((tq D rules q).length : Int) > 100000 then some ([], 0, 4) else trun D rules stops n (tq D rules q) (i + 1) := by
  obtain ⟨hD0, hD1, hn0, hn1, hs, hw⟩ := okT_true hT
  simp only [trun]
  by_cases h1 : (q.length : Int) < D
  · rw [if_pos h1, if_pos h1]
  · have hm := hq.2 _ (rd_mem (l := q) (by omega))
    obtain ⟨w1, w2⟩ := hw _ (rdL_mem hm.1 hm.2)
    rw [if_neg h1, if_neg h1, if_pos (by rw [hs]; exact hm)]
    by_cases h2 : rdOf false stops (rd q 0) = true
    · rw [if_pos h2, if_pos h2]
    · rw [if_neg h2, if_neg h2, if_pos ⟨hm.2, by omega⟩, tq]
def refRun (z : List Int × Int × Int) : List Int × Int × Bool := if z.2.2 = 0 then (z.1, z.2.1, true) else ([], 0, false)
theorem rrun_loop {D : Int} {rules : List (List Int)} {stops : List Bool} (hT : okT D rules stops = true) (n : Nat) (hn : n ≤ 1000000) : ∀ (d i : Nat) (q : List Int) (z : List Int × Int × Int), i + d = n → qok rules.length q → trun D rules stops d q (i : Int) = some z → Ev (fun k => standstillref07_Run.l0 k q (n : Int) (i : Int) D rules stops) (refRun z) := by
  intro d
  induction d with
  | zero =>
    intro i q z hi hq hz
    simp only [trun, Option.some.injEq] at hz
    subst hz
    rw [Ev_succ]
    simp only [standstillref07_Run.l0, Ev_ite, Ev_some, Ev_none]
    rw [if_neg (by omega), show n = i by omega]
    rfl
  | succ d ih =>
    intro i q z hi hq hz
    rw [trun_succ hT hq] at hz
    rw [Ev_succ]
    simp only [standstillref07_Run.l0, Ev_ite, Ev_some, Ev_none]
    rw [if_pos (by omega), ref_Stopped_eq hT hq]
    simp only [Option.bind_some, Ev_ite, Ev_some]
    by_cases h1 : (q.length : Int) < D
    · rw [if_pos h1] at hz ⊢
      injection hz with hz
      subst hz
      rfl
    · rw [if_neg h1] at hz ⊢
      by_cases h2 : rdOf false stops (rd q 0) = true
      · rw [if_pos h2] at hz ⊢
        injection hz with hz
        subst hz
        rfl
      · rw [if_neg h2] at hz ⊢
        rw [ref_Step_eq hT hq h1]
        by_cases h3 : ((tq D rules q).length : Int) > 100000
        · rw [if_pos h3] at hz ⊢
          injection hz with hz
          subst hz
          simp only [Option.bind_some, Ev_ite, Ev_some]
          rw [if_neg (by decide)]
          rfl
        · rw [if_neg h3] at hz ⊢
          simp only [Option.bind_some, Ev_ite, Ev_some]
          rw [if_pos trivial, wrap_nat i (by omega)]
          exact ih (i + 1) _ z (by omega) (tq_ok hT hq h1 h3) hz
theorem ref_Run_ev {D : Int} {rules : List (List Int)} {stops : List Bool} {q : List Int} (hT : okT D rules stops = true) (hq : qok rules.length q) (n : Nat) (hn : n ≤ 1000000) {z : List Int × Int × Int} (hz : trun D rules stops n q 0 = some z) : Ev (fun k => standstillref07_Run.f k D rules stops q (n : Int)) (refRun z) := by
  have h1 := hq.1
  unfold standstillref07_Run.f
  simp only [Option.bind_some, List.nil_append, List.length_nil, Ev_ite, Ev_none]
  rw [if_pos (by omega)]
  exact rrun_loop hT n hn n 0 q z (by omega) hq hz
theorem size_eq (b : Bool) : standstilllaw07_size.f b = some (if b = true then 0 else 4) := by
  cases b <;> rfl

theorem tag_Run_arg {D : Int} {rules : List (List Int)} {stops : List Bool} {q : List Int} {n : Int} (hQ : okQ D rules stops q = true) (h : n < 0 ∨ n > 1000000) : Ev (fun k => tag_Run.f k D rules stops q n) ([], 0, 2) := by
  unfold tag_Run.f
  rw [Ev_bind (tag_Fits_ev D rules stops q), hQ]
  simp only [if_true, Ev_ite, Ev_some]
  split
  · trivial
  · split
    · trivial
    · exact absurd h (by omega)
theorem tag_Step_ev {D : Int} {rules : List (List Int)} {stops : List Bool} {q : List Int} (hQ : okQ D rules stops q = true) (hT : okT D rules stops = true) (hq : qok rules.length q) : Ev (fun k => tag_Step.f k D rules stops q) (if (q.length : Int) < D then ([], 5) else if rdOf false stops (rd q 0) = true then ([], 5) else if ((tq D rules q).length : Int) > 100000 then ([], 4) else (tq D rules q, 0)) := by
  unfold tag_Step.f
  have h1 := trun_succ hT hq 0 0
  by_cases c1 : (q.length : Int) < D
  · rw [if_pos c1] at h1
    rw [if_pos c1, Ev_bind (tag_Run_ev (n := 1) hQ (by omega) (by omega) h1)]
    simp only [Ev_ite, Ev_some]
    rw [if_pos trivial, if_pos trivial]
    trivial
  · rw [if_neg c1] at h1
    rw [if_neg c1]
    by_cases c2 : rdOf false stops (rd q 0) = true
    · rw [if_pos c2] at h1
      rw [if_pos c2, Ev_bind (tag_Run_ev (n := 1) hQ (by omega) (by omega) h1)]
      simp only [Ev_ite, Ev_some]
      rw [if_pos trivial, if_pos trivial]
      trivial
    · rw [if_neg c2] at h1
      rw [if_neg c2]
      by_cases c3 : ((tq D rules q).length : Int) > 100000
      · rw [if_pos c3] at h1
        rw [if_pos c3, Ev_bind (tag_Run_ev (n := 1) hQ (by omega) (by omega) h1)]
        simp only [Ev_ite, Ev_some]
        rw [if_neg (by decide)]
        trivial
      · rw [if_neg c3] at h1
        rw [if_neg c3, Ev_bind (tag_Run_ev (n := 1) hQ (by omega) (by omega) h1)]
        simp only [Ev_ite, Ev_some]
        rw [if_pos trivial, if_neg (by decide)]
        trivial
theorem Same_refl (q : List Int) (hq : q.length ≤ 1000000000000000) : Ev (fun k => standstillref07_Same.f k q q) true := by
  have h := Same_ev q q hq
  rwa [decide_eq_true rfl] at h
theorem tr_tail {D : Int} {rules : List (List Int)} {stops : List Bool} {q : List Int} (hT : okT D rules stops = true) (hq : qok rules.length q) (n : Int) (z : List Int × Int × Int) (hz : (n < 0 ∨ n > 1000000) → z = ([], 0, 2)) (hz2 : ¬ (n < 0 ∨ n > 1000000) → trun D rules stops n.toNat q 0 = some z) : Ev (fun k => standstilllaw07_TagRuns.j2 k q n z.1 z.2.1 z.2.2 D rules stops) true := by
  rw [Ev_succ]
  simp only [standstilllaw07_TagRuns.j2, Ev_ite]
  have hno : (n < 0 ∨ n > 1000000) → Ev (fun k => standstilllaw07_TagRuns.j3 k q n z.1 z.2.1 z.2.2 true D rules stops) true := by
    intro h
    obtain rfl := hz h
    rw [Ev_succ]
    simp only [standstilllaw07_TagRuns.j3, Ev_ite, Ev_none, if_true, List.length_nil]
    rw [if_pos (by rfl), Ev_bind awake_true, Ev_some]
  by_cases h : n < 0
  · rw [if_pos h]; exact hno (Or.inl h)
  rw [if_neg h]
  by_cases h' : n > 1000000
  · rw [decide_eq_true h']; exact hno (Or.inr h')
  rw [decide_eq_false h']
  have hz := hz2 (by omega)
  obtain ⟨m, rfl⟩ := Int.eq_ofNat_of_zero_le (show 0 ≤ n by omega)
  rw [Int.toNat_natCast] at hz
  obtain ⟨y, hy, hc⟩ := trun_ok hT m q 0 hq
  rw [hz] at hy
  injection hy with hy
  subst hy
  rw [Ev_succ]
  simp only [standstilllaw07_TagRuns.j3, Ev_ite, Ev_none, Bool.false_eq_true, if_false]
  rw [Ev_bind (ref_Run_ev hT hq m (by omega) hz)]
  simp only [size_eq, Option.bind_some, Ev_ite]
  rcases hc with ⟨h0, h1, _⟩ | rfl
  · have e : refRun z = (z.1, z.2.1, true) := by rw [refRun, if_pos h0]
    have hl := h1.1
    rw [e]
    simp only [Ev_ite]
    rw [if_pos (by rw [h0]; rfl), if_pos trivial, Ev_bind (Same_refl z.1 (by omega))]
    simp only [Ev_ite]
    rw [if_pos trivial, Ev_bind awake_true, Ev_some]
  · have e : refRun (([] : List Int), (0 : Int), (4 : Int)) = ([], 0, false) := rfl
    rw [e]
    simp only [Ev_ite]
    rw [if_pos (by rfl), if_pos trivial, Ev_bind (Same_refl [] (by simp))]
    simp only [Ev_ite]
    rw [if_pos trivial, Ev_bind awake_true, Ev_some]
theorem TagRuns : standstilllaw07_TagRuns.Pure := by
  intro D rules stops q n h0 h1 h2 h3 h4
  suffices h : Ev (fun k => standstilllaw07_TagRuns.f k D rules stops q n) true by
    obtain ⟨K, h⟩ := h
    exact ⟨K, h K (Nat.le_refl _)⟩
  unfold standstilllaw07_TagRuns.f
  obtain ⟨v, hv, _⟩ := wide_ev D rules stops q
  have hyes : Ev (fun k => standstilllaw07_TagRuns.j0 k q n true D rules stops) true := by
    rw [Ev_succ]
    simp only [standstilllaw07_TagRuns.j0, if_true]
    rw [Ev_bind awake_true, Ev_some]
  have hno : Ev (fun k => standstilllaw07_TagRuns.j0 k q n false D rules stops) true := by
    rw [Ev_succ]
    simp only [standstilllaw07_TagRuns.j0, Ev_ite, Bool.false_eq_true, if_false]
    rw [Ev_bind (tag_Valid_ev D rules stops), Ev_bind (ref_Valid_ev D rules stops)]
    simp only [Ev_ite]
    rw [if_neg (by simp), Ev_bind (tag_Fits_ev D rules stops q), Ev_bind (ref_Fits_ev D rules stops q)]
    simp only [bne_self_eq_false]
    rw [Ev_succ]
    simp only [standstilllaw07_TagRuns.j1, Ev_ite, Bool.false_eq_true, if_false]
    cases hQ : okQ D rules stops q with
    | false =>
      have hQ' : ¬ okQ D rules stops q = true := by rw [hQ]; decide
      have hS : Ev (fun k => tag_Step.f k D rules stops q) (([] : List Int), (1 : Int)) := by
        unfold tag_Step.f
        rw [Ev_bind (tag_Run_no hQ')]
        simp only [Ev_ite, Ev_some]
        rw [if_neg (by decide)]
        trivial
      have hF := ref_Fits_ev D rules stops q
      rw [hQ] at hF
      rw [Ev_bind hS, Ev_bind (tag_Run_no hQ'), Ev_bind hF]
      simp only [Ev_ite, Bool.false_eq_true, if_false]
      rw [if_pos trivial, if_pos trivial, if_pos (by simp only [List.length_nil]; unfold wrap64; omega), Ev_bind awake_true, Ev_some]
    | true =>
      obtain ⟨hT, hq0⟩ := okQ_true hQ
      have hq : qok rules.length q := hq0
      have key : ∃ z : List Int × Int × Int, Ev (fun k => tag_Run.f k D rules stops q n) z ∧ Ev (fun k => standstilllaw07_TagRuns.j2 k q n z.1 z.2.1 z.2.2 D rules stops) true := by
        by_cases hn : n < 0 ∨ n > 1000000
        · exact ⟨_, tag_Run_arg hQ hn, tr_tail hT hq n _ (fun _ => rfl) (fun h => absurd hn h)⟩
        · obtain ⟨z, hz, hc⟩ := trun_ok hT n.toNat q 0 hq
          exact ⟨z, tag_Run_ev hQ (by omega) (by omega) hz, tr_tail hT hq n z (fun h => absurd h hn) (fun _ => hz)⟩
      obtain ⟨z, hz, hj⟩ := key
      have hF := ref_Fits_ev D rules stops q
      rw [hQ] at hF
      rw [Ev_bind (tag_Step_ev hQ hT hq), Ev_bind hz, Ev_bind hF, ref_Stopped_eq hT hq]
      simp only [Option.bind_some, Ev_ite, if_true]
      by_cases c1 : (q.length : Int) < D
      · simp only [if_pos c1, Ev_ite, if_true, List.length_nil, Ev_none]
        rw [if_neg (by decide)]
        exact hj
      · simp only [if_neg c1]
        by_cases c2 : rdOf false stops (rd q 0) = true
        · simp only [if_pos c2, Ev_ite, if_true, List.length_nil, Ev_none]
          rw [if_neg (by decide)]
          exact hj
        · simp only [if_neg c2]
          rw [ref_Step_eq hT hq c1]
          by_cases c3 : ((tq D rules q).length : Int) > 100000
          · simp only [if_pos c3, size_eq, Option.bind_some, Ev_ite, Bool.false_eq_true, if_false, if_true]
            rw [Ev_bind (Same_refl [] (by simp))]
            simp only [Ev_ite]
            rw [if_pos trivial]
            exact hj
          · simp only [if_neg c3, size_eq, Option.bind_some, Ev_ite, if_true]
            rw [Ev_bind (Same_refl _ (by omega))]
            simp only [Ev_ite]
            rw [if_pos trivial]
            exact hj
  rw [Ev_bind hv]
  simp only [Ev_ite]
  split
  · exact hyes
  · split
    · cases decide (n ≤ 1000000)
      · exact hno
      · exact hyes
    · exact hno

end Go.Proofs.Ytkinnaegedbanaa.Pure
