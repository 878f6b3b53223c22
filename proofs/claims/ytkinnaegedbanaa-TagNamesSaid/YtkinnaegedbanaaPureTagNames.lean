/- The plain law of TagNames: a tag system whose letters have other names, one to one, has the renamed queues. No condition beyond what every argument has (numbers of their kind, lists within memory). -/
import Derived.Test.YtkinnaegedbanaaAid
import Derived.Test.YtkinnaegedbanaaPTagNamesx6
namespace Go.Proofs.Ytkinnaegedbanaa.Pure
open Go.RowKit Go.Proofs.Ytkinnaegedbanaa.PTagNames Go.Proofs.YtkinnaegedbanaaW.PrintWords Go.Proofs.YtkinnaegedbanaaW.PrintLast Go.Proofs.YtkinnaegedbanaaW.PrintMore Go.Proofs.YtkinnaegedbanaaAid
set_option linter.unusedVariables false
set_option linter.unusedSimpArgs false

theorem wrap_nat (i : Nat) (h : i ≤ 4611686018427387904) : wrap64 ((i : Int) + 1) = ((i + 1 : Nat) : Int) := by
  rw [wrap_id (by omega) (by omega)]; omega
theorem getD_lt {α : Type} (l : List α) {i : Nat} (d : α) (h : i < l.length) : l.getD i d = l[i] := by
  simp [List.getD_eq_getElem?_getD, h]
theorem rdL (l : List (List Int)) (i : Nat) (h : i < l.length) : rd_L1 l (i : Int) = l[i] := by
  simp [rd_L1, List.getD_eq_getElem?_getD, h]
/-! Letters of an alphabet. -/
def lok (n x : Int) : Bool := decide (0 ≤ x) && decide (x < n)
theorem tl_loop (n : Int) (l : List Int) (hl : l.length ≤ 1000000000000000) : ∀ (d i : Nat), i + d = l.length → Ev (fun k => tag_letters.l0 k n l (l.length : Int) (i : Int)) ((l.drop i).all (lok n)) := by
  intro d
  induction d with
  | zero =>
    intro i hi
    rw [Ev_succ]
    simp only [tag_letters.l0, Ev_ite, Ev_some, Ev_none]
    rw [if_neg (by omega), List.drop_eq_nil_of_le (by omega)]
    rfl
  | succ d ih =>
    intro i hi
    have hlt : i < l.length := by omega
    have ih := ih (i + 1) (by omega)
    rw [drop_cons l i hlt, List.all_cons, Ev_succ]
    simp only [tag_letters.l0, Ev_ite, Ev_some, Ev_none]
    rw [if_pos (by omega), if_pos (by omega), if_pos (by omega), rd_nat l i hlt, wrap_nat i (by omega)]
    by_cases h0 : l[i] < 0
    · rw [if_pos h0, lok, decide_eq_false (by omega)]; rfl
    · rw [if_neg h0]
      by_cases h1 : l[i] ≥ n
      · rw [if_pos h1, lok, decide_eq_true (by omega), decide_eq_false (by omega)]; rfl
      · rw [if_neg h1, lok, decide_eq_true (by omega), decide_eq_true (by omega)]
        exact ih
theorem tag_letters_ev (n : Int) (l : List Int) (hl : l.length ≤ 1000000000000000) : Ev (fun k => tag_letters.f k l n) (l.all (lok n)) := tl_loop n l hl l.length 0 (by omega)
theorem rl_loop (n : Int) (l : List Int) (hl : l.length ≤ 1000000000000000) : ∀ (d i : Nat), i + d = l.length → Ev (fun k => standstillref07_letters.l0 k l n (i : Int)) ((l.drop i).all (lok n)) := by
  intro d
  induction d with
  | zero =>
    intro i hi
    rw [Ev_succ]
    simp only [standstillref07_letters.l0, Ev_ite, Ev_some, Ev_none]
    rw [if_neg (by omega), List.drop_eq_nil_of_le (by omega)]
    rfl
  | succ d ih =>
    intro i hi
    have hlt : i < l.length := by omega
    have ih := ih (i + 1) (by omega)
    rw [drop_cons l i hlt, List.all_cons, Ev_succ]
    simp only [standstillref07_letters.l0, Ev_ite, Ev_some, Ev_none]
    have hgo : lok n l[i] = true → Ev (fun k => standstillref07_letters.l0 k l n (wrap64 ((i : Int) + 1))) (lok n l[i] && (l.drop (i + 1)).all (lok n)) := by
      intro h
      rw [wrap_nat i (by omega), h, Bool.true_and]
      exact ih
    have hno : lok n l[i] = false → (false = (lok n l[i] && (l.drop (i + 1)).all (lok n))) := by
      intro h
      rw [h, Bool.false_and]
    rw [rd_nat l i hlt]
    generalize l[i] = x at hgo hno ⊢
    simp only [lok, Bool.and_eq_true, decide_eq_true_eq, Bool.and_eq_false_iff, decide_eq_false_iff_not] at hgo hno
    repeat' split
    all_goals first | (exfalso; omega) | (refine hgo ?_; omega) | (refine hno ?_; omega)
theorem ref_letters_ev (n : Int) (l : List Int) (hl : l.length ≤ 1000000000000000) : Ev (fun k => standstillref07_letters.f k l n) (l.all (lok n)) := rl_loop n l hl l.length 0 (by omega)
/-! Tag systems. -/
def wok (n : Int) (w : List Int) : Bool := decide (w.length ≤ 200) && w.all (lok n)
def okT (D : Int) (rules : List (List Int)) (stops : List Bool) : Bool := decide (1 ≤ D ∧ D ≤ 4 ∧ 1 ≤ rules.length ∧ rules.length ≤ 600 ∧ stops.length = rules.length) && rules.all (wok rules.length)
theorem tv_loop (rules : List (List Int)) (hn : rules.length ≤ 600) : ∀ (d i : Nat), i + d = rules.length → Ev (fun k => tag_Valid.l0 k (rules.length : Int) rules (rules.length : Int) (i : Int)) ((rules.drop i).all (wok rules.length)) := by
  intro d
  induction d with
  | zero =>
    intro i hi
    rw [Ev_succ]
    simp only [tag_Valid.l0, Ev_ite, Ev_some, Ev_none]
    rw [if_neg (by omega), List.drop_eq_nil_of_le (by omega)]
    rfl
  | succ d ih =>
    intro i hi
    have hlt : i < rules.length := by omega
    have ih := ih (i + 1) (by omega)
    rw [drop_cons rules i hlt, List.all_cons, Ev_succ]
    simp only [tag_Valid.l0, Ev_ite, Ev_some, Ev_none]
    rw [if_pos (by omega), if_pos (by omega), if_pos (by omega), rdL rules i hlt, wrap_nat i (by omega)]
    by_cases h0 : ((rules[i].length : Int)) > 200
    · rw [if_pos h0, wok, decide_eq_false (by omega)]; rfl
    · rw [if_neg h0, Ev_bind (tag_letters_ev (rules.length : Int) rules[i] (by omega))]
      simp only [Ev_ite, Ev_some]
      rw [wok, decide_eq_true (by omega), Bool.true_and]
      by_cases h1 : rules[i].all (lok rules.length) = true
      · rw [if_pos h1, h1, Bool.true_and]; exact ih
      · rw [if_neg h1, Bool.eq_false_iff.2 h1, Bool.false_and]
theorem tag_Valid_ev (D : Int) (rules : List (List Int)) (stops : List Bool) : Ev (fun k => tag_Valid.f k D rules stops) (okT D rules stops) := by
  unfold tag_Valid.f
  have hj : ∀ b, (b = true → ¬ (1 ≤ D ∧ D ≤ 4 ∧ 1 ≤ rules.length ∧ rules.length ≤ 600 ∧ stops.length = rules.length)) → (b = false → (1 ≤ D ∧ D ≤ 4 ∧ 1 ≤ rules.length ∧ rules.length ≤ 600 ∧ stops.length = rules.length)) → Ev (fun k => tag_Valid.j0 k (rules.length : Int) b D rules stops) (okT D rules stops) := by
    intro b h1 h2
    rw [Ev_succ]
    simp only [tag_Valid.j0, Ev_ite, Ev_some]
    cases b with
    | true => rw [if_pos rfl, okT, decide_eq_false (h1 rfl), Bool.false_and]
    | false =>
      rw [if_neg (by simp), okT, decide_eq_true (h2 rfl), Bool.true_and]
      exact tv_loop rules (h2 rfl).2.2.2.1 rules.length 0 (by omega)
  simp only [Ev_ite]
  repeat' split
  all_goals refine hj _ (fun h => ?_) (fun h => ?_)
  all_goals first | (cases h; done) | omega | (simp at h; omega)
theorem rv_loop (D : Int) (rules : List (List Int)) (stops : List Bool) (hn : rules.length ≤ 600) : ∀ (d i : Nat), i + d = rules.length → Ev (fun k => standstillref07_Valid.l0 k (rules.length : Int) (i : Int) D rules stops) ((rules.drop i).all (wok rules.length)) := by
  intro d
  induction d with
  | zero =>
    intro i hi
    rw [Ev_succ]
    simp only [standstillref07_Valid.l0, Ev_ite, Ev_some, Ev_none]
    rw [if_neg (by omega), List.drop_eq_nil_of_le (by omega)]
    rfl
  | succ d ih =>
    intro i hi
    have hlt : i < rules.length := by omega
    have ih := ih (i + 1) (by omega)
    rw [drop_cons rules i hlt, List.all_cons, Ev_succ]
    simp only [standstillref07_Valid.l0, Ev_ite, Ev_some, Ev_none]
    rw [if_pos (by omega), if_pos (by omega), if_pos (by omega), rdL rules i hlt, wrap_nat i (by omega)]
    by_cases h0 : ((rules[i].length : Int)) > 200
    · rw [if_pos h0, wok, decide_eq_false (by omega)]; rfl
    · rw [if_neg h0, Ev_bind (ref_letters_ev (rules.length : Int) rules[i] (by omega))]
      simp only [Ev_ite, Ev_some]
      rw [wok, decide_eq_true (by omega), Bool.true_and]
      by_cases h1 : rules[i].all (lok rules.length) = true
      · rw [if_pos h1, h1, Bool.true_and]; exact ih
      · rw [if_neg h1, Bool.eq_false_iff.2 h1, Bool.false_and]
theorem ref_Valid_ev (D : Int) (rules : List (List Int)) (stops : List Bool) : Ev (fun k => standstillref07_Valid.f k D rules stops) (okT D rules stops) := by
  unfold standstillref07_Valid.f
  have hj : ∀ b, (b = true → ¬ (1 ≤ D ∧ D ≤ 4 ∧ 1 ≤ rules.length ∧ rules.length ≤ 600 ∧ stops.length = rules.length)) → (b = false → (1 ≤ D ∧ D ≤ 4 ∧ 1 ≤ rules.length ∧ rules.length ≤ 600 ∧ stops.length = rules.length)) → Ev (fun k => standstillref07_Valid.j0 k (rules.length : Int) b D rules stops) (okT D rules stops) := by
    intro b h1 h2
    rw [Ev_succ]
    simp only [standstillref07_Valid.j0, Ev_ite, Ev_some]
    cases b with
    | true => rw [if_pos rfl, okT, decide_eq_false (h1 rfl), Bool.false_and]
    | false =>
      rw [if_neg (by simp), okT, decide_eq_true (h2 rfl), Bool.true_and]
      exact rv_loop D rules stops (h2 rfl).2.2.2.1 rules.length 0 (by omega)
  simp only [Ev_ite]
  repeat' split
  all_goals refine hj _ (fun h => ?_) (fun h => ?_)
  all_goals first | (cases h; done) | omega | (simp at h; omega)
theorem okT_true {D : Int} {rules : List (List Int)} {stops : List Bool} (h : okT D rules stops = true) : 1 ≤ D ∧ D ≤ 4 ∧ 1 ≤ rules.length ∧ rules.length ≤ 600 ∧ stops.length = rules.length ∧ ∀ w ∈ rules, w.length ≤ 200 ∧ ∀ x ∈ w, 0 ≤ x ∧ x < rules.length := by
  simp only [okT, wok, lok, Bool.and_eq_true, decide_eq_true_eq, List.all_eq_true] at h
  exact ⟨h.1.1, h.1.2.1, h.1.2.2.1, h.1.2.2.2.1, h.1.2.2.2.2, h.2⟩
def okQ (D : Int) (rules : List (List Int)) (stops : List Bool) (q : List Int) : Bool := okT D rules stops && (decide (q.length ≤ 100000) && q.all (lok rules.length))
theorem tag_Fits_ev (D : Int) (rules : List (List Int)) (stops : List Bool) (q : List Int) : Ev (fun k => tag_Fits.f k D rules stops q) (okQ D rules stops q) := by
  unfold tag_Fits.f
  rw [Ev_bind (tag_Valid_ev D rules stops)]
  simp only [Ev_ite, Ev_some]
  by_cases hv : okT D rules stops = true
  · rw [if_pos hv, okQ, hv, Bool.true_and]
    by_cases hl : (q.length : Int) ≤ 100000
    · rw [if_pos hl, Ev_bind (tag_letters_ev _ q (by omega)), Ev_some, decide_eq_true (by omega), Bool.true_and]
    · rw [if_neg hl, decide_eq_false (by omega), Bool.false_and]
  · rw [if_neg hv, okQ, Bool.eq_false_iff.2 hv, Bool.false_and]
theorem ref_Fits_ev (D : Int) (rules : List (List Int)) (stops : List Bool) (q : List Int) : Ev (fun k => standstillref07_Fits.f k D rules stops q) (okQ D rules stops q) := by
  unfold standstillref07_Fits.f
  rw [Ev_bind (ref_Valid_ev D rules stops)]
  simp only [Ev_ite, Ev_some]
  by_cases hv : okT D rules stops = true
  · rw [if_pos hv, okQ, hv, Bool.true_and]
    by_cases hl : (q.length : Int) ≤ 100000
    · rw [if_pos hl, Ev_bind (ref_letters_ev _ q (by omega)), Ev_some, decide_eq_true (by omega), Bool.true_and]
    · rw [if_neg hl, decide_eq_false (by omega), Bool.false_and]
  · rw [if_neg hv, okQ, Bool.eq_false_iff.2 hv, Bool.false_and]
theorem okQ_true {D : Int} {rules : List (List Int)} {stops : List Bool} {q : List Int} (h : okQ D rules stops q = true) : okT D rules stops = true ∧ q.length ≤ 100000 ∧ ∀ x ∈ q, 0 ≤ x ∧ x < rules.length := by
  simp only [okQ, lok, Bool.and_eq_true, decide_eq_true_eq, List.all_eq_true] at h
  exact ⟨h.1, h.2.1, h.2.2⟩
/-! Equal lists. -/
theorem same_loop (a b : List Int) (hl : a.length = b.length) (hs : a.length ≤ 1000000000000000) : ∀ (d i : Nat), i + d = a.length → Ev (fun k => standstillref07_Same.l0 k a b (i : Int)) (decide (a.drop i = b.drop i)) := by
  intro d
  induction d with
  | zero =>
    intro i hi
    rw [Ev_succ]
    simp only [standstillref07_Same.l0, Ev_ite, Ev_some, Ev_none]
    rw [if_neg (by omega), List.drop_eq_nil_of_le (by omega), List.drop_eq_nil_of_le (by omega)]
    rfl
  | succ d ih =>
    intro i hi
    have ha : i < a.length := by omega
    have hb : i < b.length := by omega
    have ih := ih (i + 1) (by omega)
    rw [drop_cons a i ha, drop_cons b i hb, Ev_succ]
    simp only [standstillref07_Same.l0, Ev_ite, Ev_some, Ev_none]
    rw [if_pos (by omega), if_pos (by omega), if_pos (by omega), rd_nat a i ha, rd_nat b i hb, wrap_nat i (by omega)]
    generalize List.drop (i + 1) a = A at ih ⊢
    generalize List.drop (i + 1) b = B at ih ⊢
    generalize a[i] = x
    generalize b[i] = y
    by_cases h : x = y
    · rw [if_pos h]; simpa [h] using ih
    · rw [if_neg h]; simp [h]
theorem Same_ev (a b : List Int) (hs : a.length ≤ 1000000000000000) : Ev (fun k => standstillref07_Same.f k a b) (decide (a = b)) := by
  unfold standstillref07_Same.f
  simp only [Ev_ite, Ev_some]
  by_cases h : (a.length : Int) = (b.length : Int)
  · rw [if_pos h]
    exact same_loop a b (by omega) hs a.length 0 (by omega)
  · rw [if_neg h, decide_eq_false]
    rintro rfl
    exact h rfl

/-! Runs in parts. -/
def qok (n : Nat) (q : List Int) : Prop := q.length ≤ 100000 ∧ ∀ x ∈ q, 0 ≤ x ∧ x < n
theorem rd_mem {l : List Int} (h : 0 < l.length) : rd l 0 ∈ l := by
  have : rd l 0 = l[0] := by have := rd_nat l 0 h; simpa using this
  rw [this]; exact List.getElem_mem h
theorem rdL_mem {l : List (List Int)} {x : Int} (h0 : 0 ≤ x) (h1 : x < l.length) : rd_L1 l x ∈ l := by
  have e : rd_L1 l x = l[x.toNat]'(by omega) := by
    have := rdL l x.toNat (by omega)
    rwa [Int.toNat_of_nonneg h0] at this
  rw [e]; exact List.getElem_mem _
theorem qok_drop {n : Nat} {q w : List Int} {d : Nat} (hq : ∀ x ∈ q, 0 ≤ x ∧ x < (n : Int)) (hw : ∀ x ∈ w, 0 ≤ x ∧ x < (n : Int)) : ∀ x ∈ (q ++ w).drop d, 0 ≤ x ∧ x < (n : Int) := by
  intro x hx
  rcases List.mem_append.1 (List.mem_of_mem_drop hx) with h | h
  · exact hq x h
  · exact hw x h
theorem trun_ok {D : Int} {rules : List (List Int)} {stops : List Bool} (hT : okT D rules stops = true) : ∀ (n : Nat) (q : List Int) (i : Int), qok rules.length q → ∃ z, trun D rules stops n q i = some z ∧ ((z.2.2 = 0 ∧ qok rules.length z.1 ∧ i ≤ z.2.1 ∧ z.2.1 ≤ i + n) ∨ z = ([], 0, 4)) := by
  obtain ⟨hD0, hD1, hn0, hn1, hs, hw⟩ := okT_true hT
  intro n
  induction n with
  | zero => intro q i hq; exact ⟨_, rfl, Or.inl ⟨rfl, hq, by simp, by simp⟩⟩
  | succ n ih =>
    intro q i hq
    simp only [trun]
    by_cases h1 : (q.length : Int) < D
    · rw [if_pos h1]; exact ⟨_, rfl, Or.inl ⟨rfl, hq, by simp, by simp; omega⟩⟩
    · rw [if_neg h1]
      have hm := hq.2 _ (rd_mem (l := q) (by omega))
      rw [if_pos (by rw [hs]; exact hm)]
      by_cases h2 : rdOf false stops (rd q 0) = true
      · rw [if_pos h2]; exact ⟨_, rfl, Or.inl ⟨rfl, hq, by simp, by simp; omega⟩⟩
      · rw [if_neg h2]
        obtain ⟨w1, w2⟩ := hw _ (rdL_mem hm.1 hm.2)
        rw [if_pos ⟨hm.2, by omega⟩]
        by_cases h3 : (((q ++ rd_L1 rules (rd q 0)).drop D.toNat).length : Int) > 100000
        · rw [if_pos h3]; exact ⟨_, rfl, Or.inr rfl⟩
        · rw [if_neg h3]
          obtain ⟨z, hz, hc⟩ := ih ((q ++ rd_L1 rules (rd q 0)).drop D.toNat) (i + 1) ⟨by omega, qok_drop hq.2 w2⟩
          refine ⟨z, hz, ?_⟩
          rcases hc with ⟨a, b, c, d⟩ | h
          · exact Or.inl ⟨a, b, by omega, by push_cast; omega⟩
          · exact Or.inr h
theorem trun_add {D : Int} {rules : List (List Int)} {stops : List Bool} (k : Nat) : ∀ (n : Nat) (q : List Int) (i : Int) (q' : List Int) (i' : Int), trun D rules stops n q i = some (q', i', 0) → trun D rules stops (n + k) q i = trun D rules stops k q' i' := by
  intro n
  induction n with
  | zero =>
    intro q i q' i' h
    simp only [trun, Option.some.injEq, Prod.mk.injEq] at h
    obtain ⟨rfl, rfl, _⟩ := h
    rw [Nat.zero_add]
  | succ n ih =>
    intro q i q' i' h
    rw [show n + 1 + k = (n + k) + 1 by omega]
    simp only [trun] at h ⊢
    by_cases h1 : (q.length : Int) < D
    · rw [if_pos h1] at h ⊢
      simp only [Option.some.injEq, Prod.mk.injEq] at h
      obtain ⟨rfl, rfl, _⟩ := h
      cases k with
      | zero => rfl
      | succ k => simp only [trun]; rw [if_pos h1]
    · rw [if_neg h1] at h ⊢
      by_cases hx : 0 ≤ rd q 0 ∧ rd q 0 < (stops.length : Int)
      rotate_left
      · rw [if_neg hx] at h; cases h
      rw [if_pos hx] at h ⊢
      by_cases h2 : rdOf false stops (rd q 0) = true
      · rw [if_pos h2] at h ⊢
        simp only [Option.some.injEq, Prod.mk.injEq] at h
        obtain ⟨rfl, rfl, _⟩ := h
        cases k with
        | zero => rfl
        | succ k => simp only [trun]; rw [if_neg h1, if_pos hx, if_pos h2]
      · rw [if_neg h2] at h ⊢
        by_cases hr : rd q 0 < (rules.length : Int) ∧ (rd_L1 rules (rd q 0)).length ≤ 1048576
        rotate_left
        · rw [if_neg hr] at h; cases h
        rw [if_pos hr] at h ⊢
        by_cases h3 : (((q ++ rd_L1 rules (rd q 0)).drop D.toNat).length : Int) > 100000
        · rw [if_pos h3] at h
          simp at h
        · rw [if_neg h3] at h ⊢
          exact ih _ _ _ _ h
theorem trun_bad {D : Int} {rules : List (List Int)} {stops : List Bool} (k : Nat) : ∀ (n : Nat) (q : List Int) (i : Int), trun D rules stops n q i = some ([], 0, 4) → trun D rules stops (n + k) q i = some ([], 0, 4) := by
  intro n
  induction n with
  | zero => intro q i h; simp [trun] at h
  | succ n ih =>
    intro q i h
    rw [show n + 1 + k = (n + k) + 1 by omega]
    simp only [trun] at h ⊢
    by_cases h1 : (q.length : Int) < D
    · rw [if_pos h1] at h; simp at h
    · rw [if_neg h1] at h ⊢
      by_cases hx : 0 ≤ rd q 0 ∧ rd q 0 < (stops.length : Int)
      rotate_left
      · rw [if_neg hx] at h; cases h
      rw [if_pos hx] at h ⊢
      by_cases h2 : rdOf false stops (rd q 0) = true
      · rw [if_pos h2] at h; simp at h
      · rw [if_neg h2] at h ⊢
        by_cases hr : rd q 0 < (rules.length : Int) ∧ (rd_L1 rules (rd q 0)).length ≤ 1048576
        rotate_left
        · rw [if_neg hr] at h; cases h
        rw [if_pos hr] at h ⊢
        by_cases h3 : (((q ++ rd_L1 rules (rd q 0)).drop D.toNat).length : Int) > 100000
        · rw [if_pos h3]
        · rw [if_neg h3] at h ⊢
          exact ih _ _ h
def shift (c : Int) (z : List Int × Int × Int) : List Int × Int × Int := if z.2.2 = 0 then (z.1, z.2.1 + c, z.2.2) else z
theorem trun_shift {D : Int} {rules : List (List Int)} {stops : List Bool} (c : Int) : ∀ (n : Nat) (q : List Int) (i : Int), trun D rules stops n q (i + c) = (trun D rules stops n q i).map (shift c) := by
  intro n
  induction n with
  | zero => intro q i; simp [trun, shift]
  | succ n ih =>
    intro q i
    simp only [trun]
    repeat' split
    all_goals first | rfl | (simp [shift]; done) | (rw [show i + c + 1 = i + 1 + c by omega]; exact ih _ _)
theorem tag_Run_ev {D : Int} {rules : List (List Int)} {stops : List Bool} {q : List Int} {n : Int} {z : List Int × Int × Int} (hQ : okQ D rules stops q = true) (h0 : 0 ≤ n) (h1 : n ≤ 1000000) (hz : trun D rules stops n.toNat q 0 = some z) : Ev (fun k => tag_Run.f k D rules stops q n) z := by
  unfold tag_Run.f
  rw [Ev_bind (tag_Fits_ev D rules stops q), hQ]
  obtain ⟨hT, hq, _⟩ := okQ_true hQ
  obtain ⟨hD0, hD1, _⟩ := okT_true hT
  simp only [if_true, Ev_ite]
  rw [if_neg (by omega), if_neg (by omega), if_pos ⟨by omega, by omega, by omega⟩, Ev_const]
  exact hz
theorem tag_Run_no {D : Int} {rules : List (List Int)} {stops : List Bool} {q : List Int} {n : Int} (hQ : ¬ okQ D rules stops q = true) : Ev (fun k => tag_Run.f k D rules stops q n) ([], 0, 1) := by
  unfold tag_Run.f
  rw [Ev_bind (tag_Fits_ev D rules stops q)]
  simp only [Ev_ite, Ev_some]
  rw [if_neg hQ]
  trivial
theorem okQ_mk {D : Int} {rules : List (List Int)} {stops : List Bool} {q : List Int} (hT : okT D rules stops = true) (hq : qok rules.length q) : okQ D rules stops q = true := by
  simp only [okQ, lok, Bool.and_eq_true, decide_eq_true_eq, List.all_eq_true]
  exact ⟨hT, hq.1, hq.2⟩
/-! The cyclic ones. -/

theorem wide_ev (D : Int) (rules : List (List Int)) (stops : List Bool) (q : List Int) : ∃ v, Ev (fun k => standstilllaw07_wide.f k D rules stops q) v ∧ (v = false → rules.length ≤ 700) := by
  have loop : ∀ (d i : Nat) (a : Int), i + d = rules.length → i ≤ 701 → ∃ v, Ev (fun k => standstilllaw07_wide.l0 k a (i : Int) D rules stops) v ∧ (v = false → rules.length ≤ 700) := by
    intro d
    induction d with
    | zero =>
      intro i a hi h7
      refine ⟨if a > 20000 then true else decide ((rules.length : Int) > 700), ?_, ?_⟩
      · rw [Ev_succ]
        simp only [standstilllaw07_wide.l0, Ev_ite, Ev_some, Ev_none]
        rw [if_neg (by omega)]
        split <;> rfl
      · split
        · intro h; cases h
        · intro h; have := of_decide_eq_false h; omega
    | succ d ih =>
      intro i a hi h7
      by_cases h : i ≤ 700
      · obtain ⟨v, hv, hv2⟩ := ih (i + 1) (wrap64 (a + ((rd_L1 rules i).length : Int))) (by omega) (by omega)
        refine ⟨v, ?_, hv2⟩
        rw [Ev_succ]
        simp only [standstilllaw07_wide.l0, Ev_ite, Ev_some, Ev_none]
        rw [if_pos (by omega), if_pos (by omega), if_pos (by omega), wrap_nat i (by omega)]
        exact hv
      · refine ⟨true, ?_, fun h => by cases h⟩
        rw [Ev_succ]
        simp only [standstilllaw07_wide.l0, Ev_ite, Ev_some, Ev_none]
        rw [if_pos (by omega), if_neg (by omega)]
        split
        · trivial
        · exact decide_eq_true (by omega)
  exact loop rules.length 0 _ (by omega) (by omega)
theorem awake_true : Ev (fun k => standstilllaw07_awake.f k) true := Ev.of (k := 60) standstilllaw07_awake.mono (by decide +kernel)

def nm (nu l : List Int) : List Int := l.map (rd nu)
theorem rdn (l : List Int) (i : Nat) (h : i < l.length) : rd l (i : Int) = l[i] := rd_nat l i h
theorem take_sn {α : Type} (l : List α) (i : Nat) (h : i < l.length) : l.take (i + 1) = l.take i ++ [l[i]] := by
  rw [List.take_succ_eq_append_getElem h]
theorem named_ev (nu l : List Int) (hl : l.length ≤ 1000000) (hx : ∀ x ∈ l, 0 ≤ x ∧ x < (nu.length : Int)) : Ev (fun k => standstilllaw07_named.f k l nu) (nm nu l) := by
  have H : ∀ (d i : Nat), i + d = l.length → Ev (fun k => standstilllaw07_named.l0 k l nu (nm nu (l.take i)) (i : Int)) (nm nu l) := by
    intro d
    induction d with
    | zero =>
      intro i hi
      rw [Ev_succ]
      simp only [standstilllaw07_named.l0, Ev_ite, Ev_none]
      rw [if_neg (by omega), List.take_of_length_le (by omega)]
      exact Ev.now _
    | succ d ih =>
      intro i hi
      have hlt : i < l.length := by omega
      have ih := ih (i + 1) (by omega)
      obtain ⟨x0, x1⟩ := hx _ (List.getElem_mem hlt)
      have e : nm nu (l.take (i + 1)) = nm nu (l.take i) ++ [rd nu l[i]] := by
        unfold nm
        rw [take_sn l i hlt, List.map_append]
        rfl
      have hln : (nm nu (l.take i)).length ≤ 1000000 := by unfold nm; rw [List.length_map, List.length_take]; omega
      rw [e] at ih
      rw [Ev_succ]
      simp only [standstilllaw07_named.l0, Ev_ite, Ev_none]
      rw [if_pos (by omega), if_pos (by omega), rdn l i hlt, if_pos x0, if_pos x1, if_pos (by omega), wrap_nat i (by omega)]
      exact ih
  unfold standstilllaw07_named.f
  exact H l.length 0 (by omega)
theorem nm_ok {nu l : List Int} {m : Nat} (hto : ∀ x : Int, 0 ≤ x → x < (m : Int) → 0 ≤ rd nu x ∧ rd nu x < (m : Int)) (hx : ∀ x ∈ l, 0 ≤ x ∧ x < (m : Int)) : ∀ x ∈ nm nu l, 0 ≤ x ∧ x < (m : Int) := by
  intro x h
  unfold nm at h
  rw [List.mem_map] at h
  obtain ⟨y, hy, rfl⟩ := h
  exact hto y (hx y hy).1 (hx y hy).2
def mapZ (nu : List Int) (z : List Int × Int × Int) : List Int × Int × Int := (nm nu z.1, z.2.1, z.2.2)
theorem nm_rd {nu q : List Int} (h : 0 < q.length) : rd (nm nu q) 0 = rd nu (rd q 0) := by
  cases q with
  | nil => simp at h
  | cons a q => simp [nm, rd]
theorem trun_nm {D : Int} {rules R' : List (List Int)} {stops S' : List Bool} {nu : List Int} (hT : okT D rules stops = true) (hS : S'.length = rules.length) (hR : R'.length = rules.length)
    (hto : ∀ x : Int, 0 ≤ x → x < (rules.length : Int) → 0 ≤ rd nu x ∧ rd nu x < (rules.length : Int))
    (hr : ∀ x : Int, 0 ≤ x → x < (rules.length : Int) → rd_L1 R' (rd nu x) = nm nu (rd_L1 rules x)) (hs : ∀ x : Int, 0 ≤ x → x < (rules.length : Int) → rdOf false S' (rd nu x) = rdOf false stops x) :
    ∀ (n : Nat) (q : List Int) (i : Int), qok rules.length q → trun D R' S' n (nm nu q) i = (trun D rules stops n q i).map (mapZ nu) := by
  obtain ⟨t1, t2, t3, t4, t5, t6⟩ := okT_true hT
  intro n
  induction n with
  | zero => intro q i _; rfl
  | succ n ih =>
    intro q i hq
    have hlen : (nm nu q).length = q.length := by unfold nm; rw [List.length_map]
    simp only [trun]
    rw [hlen]
    by_cases c1 : (q.length : Int) < D
    · rw [if_pos c1, if_pos c1]; rfl
    · rw [if_neg c1, if_neg c1]
      have hpos : 0 < q.length := by omega
      obtain ⟨a0, a1⟩ := hq.2 _ (rd_mem hpos)
      obtain ⟨b0, b1⟩ := hto _ a0 a1
      rw [nm_rd hpos, if_pos (show 0 ≤ rd nu (rd q 0) ∧ rd nu (rd q 0) < (S'.length : Int) from ⟨b0, by omega⟩), if_pos (show 0 ≤ rd q 0 ∧ rd q 0 < (stops.length : Int) from ⟨a0, by omega⟩), hs _ a0 a1]
      by_cases c2 : rdOf false stops (rd q 0) = true
      · rw [if_pos c2, if_pos c2]; rfl
      · rw [if_neg c2, if_neg c2, hr _ a0 a1]
        have hw := t6 _ (rdL_mem a0 a1)
        have hwl : (nm nu (rd_L1 rules (rd q 0))).length = (rd_L1 rules (rd q 0)).length := by unfold nm; rw [List.length_map]
        have hd : (nm nu q ++ nm nu (rd_L1 rules (rd q 0))).drop D.toNat = nm nu ((q ++ rd_L1 rules (rd q 0)).drop D.toNat) := by
          unfold nm
          rw [← List.map_append, List.map_drop]
        rw [hwl, if_pos (show rd nu (rd q 0) < (R'.length : Int) ∧ (rd_L1 rules (rd q 0)).length ≤ 1048576 from ⟨by omega, by omega⟩), if_pos (show rd q 0 < (rules.length : Int) ∧ (rd_L1 rules (rd q 0)).length ≤ 1048576 from ⟨a1, by omega⟩), hd]
        have hl2 : (nm nu ((q ++ rd_L1 rules (rd q 0)).drop D.toNat)).length = ((q ++ rd_L1 rules (rd q 0)).drop D.toNat).length := by unfold nm; rw [List.length_map]
        rw [hl2]
        by_cases c3 : (((q ++ rd_L1 rules (rd q 0)).drop D.toNat).length : Int) > 100000
        · rw [if_pos c3, if_pos c3]; rfl
        · rw [if_neg c3, if_neg c3]
          exact ih _ _ ⟨by omega, qok_drop hq.2 hw.2⟩

theorem rdOf_set {l : List Bool} {i j : Int} {v : Bool} (hi : 0 ≤ i) (hi2 : i < (l.length : Int)) (hj : 0 ≤ j) : rdOf false (l.set i.toNat v) j = if i = j then v else rdOf false l j := by
  obtain ⟨a, rfl⟩ := Int.eq_ofNat_of_zero_le hi
  obtain ⟨b, rfl⟩ := Int.eq_ofNat_of_zero_le hj
  simp only [rdOf, Int.toNat_natCast]
  by_cases h : a = b
  · subst h
    rw [if_pos rfl]
    simp [List.getD, List.getElem?_set_self (show a < l.length by omega)]
  · rw [if_neg (by omega)]
    simp [List.getD, List.getElem?_set_ne h]
theorem rdL_set {l : List (List Int)} {i j : Int} {v : List Int} (hi : 0 ≤ i) (hi2 : i < (l.length : Int)) (hj : 0 ≤ j) : rd_L1 (l.set i.toNat v) j = if i = j then v else rd_L1 l j := by
  obtain ⟨a, rfl⟩ := Int.eq_ofNat_of_zero_le hi
  obtain ⟨b, rfl⟩ := Int.eq_ofNat_of_zero_le hj
  simp only [rd_L1, Int.toNat_natCast]
  by_cases h : a = b
  · subst h
    rw [if_pos rfl]
    simp [List.getD, List.getElem?_set_self (show a < l.length by omega)]
  · rw [if_neg (by omega)]
    simp [List.getD, List.getElem?_set_ne h]
structure One (m : Nat) (nu : List Int) : Prop where
  len : nu.length = m
  ok : ∀ x : Int, 0 ≤ x → x < (m : Int) → 0 ≤ rd nu x ∧ rd nu x < (m : Int)
  inj : ∀ x y : Int, 0 ≤ x → x < y → y < (m : Int) → rd nu x ≠ rd nu y
theorem awake_b : Ev (fun k => (standstilllaw07_awake.f k).bind fun t => some t) true := by
  rw [Ev_bind awake_true, Ev_some]
theorem tn_fin {D : Int} {rules R' : List (List Int)} {stops S' : List Bool} {q nu : List Int} {n : Int} (h0 : 0 ≤ n) (h1 : n ≤ 255) (hQ : okQ D rules stops q = true) (hO : One rules.length nu) (hRl : R'.length = rules.length) (hSl : S'.length = rules.length)
    (hr : ∀ x : Int, 0 ≤ x → x < (rules.length : Int) → rd_L1 R' (rd nu x) = nm nu (rd_L1 rules x)) (hs : ∀ x : Int, 0 ≤ x → x < (rules.length : Int) → rdOf false S' (rd nu x) = rdOf false stops x)
    (hw : ∀ w ∈ R', w.length ≤ 200 ∧ ∀ x ∈ w, 0 ≤ x ∧ x < (rules.length : Int)) :
    Ev (fun k => standstilllaw07_TagNames.l1 k q nu n ((rules.length : Nat) : Int) D rules stops D R' S') true := by
  obtain ⟨hT, hq⟩ := okQ_true hQ
  obtain ⟨t1, t2, t3, t4, t5, t6⟩ := okT_true hT
  have hT' : okT D R' S' = true := by
    simp only [okT, wok, lok, Bool.and_eq_true, decide_eq_true_eq, List.all_eq_true]
    exact ⟨⟨t1, t2, by omega, by omega, by omega⟩, fun w h => ⟨(hw w h).1, fun x hx => by rw [hRl]; exact (hw w h).2 x hx⟩⟩
  have hqn : qok rules.length (nm nu q) := ⟨by unfold nm; rw [List.length_map]; exact hq.1, nm_ok hO.ok hq.2⟩
  have hQ' : okQ D R' S' (nm nu q) = true := okQ_mk hT' (by rw [hRl]; exact hqn)
  obtain ⟨z, hz, hz2⟩ := trun_ok hT n.toNat q 0 hq
  have hz' := trun_nm hT hSl hRl hO.ok hr hs n.toNat q 0 hq
  rw [hz] at hz'
  have hzq : qok rules.length z.1 := by
    rcases hz2 with ⟨_, h, _⟩ | h
    · exact h
    · rw [h]; exact ⟨by simp, fun x hx => by cases hx⟩
  have hr1 := tag_Run_ev hQ h0 (by omega) hz
  have hr2 := tag_Run_ev hQ' h0 (by omega) hz'
  have hn1 := named_ev nu q (by have := hq.1; omega) (fun x hx => by rw [hO.len]; exact hq.2 x hx)
  have hn2 := named_ev nu z.1 (by have := hzq.1; omega) (fun x hx => by rw [hO.len]; exact hzq.2 x hx)
  have hf := ref_Fits_ev D rules stops z.1
  rw [okQ_mk hT hzq] at hf
  have hsame := Same_ev (nm nu z.1) (nm nu z.1) (by unfold nm; rw [List.length_map]; have := hzq.1; omega)
  rw [decide_eq_true rfl] at hsame
  obtain ⟨z1, z2, z3⟩ := z
  simp only [mapZ] at hr2 hn2 hf hsame
  have e : wrap64 n = n := wrap_id (by omega) (by omega)
  have hlen := hO.len
  rw [Ev_succ]
  simp only [standstilllaw07_TagNames.l1, Ev_ite, Ev_none]
  rw [if_neg (by omega), e, Ev_bind hr1, Ev_bind hn1, Ev_bind hr2]
  simp only [Ev_ite, Ev_none, if_true]
  rw [Ev_bind hf]
  simp only [Ev_ite, Ev_none, if_true]
  rw [Ev_bind hn2, Ev_bind hsame]
  simp only [if_true]
  exact awake_b
theorem tn_loop {D : Int} {rules : List (List Int)} {stops : List Bool} {q nu : List Int} {n : Int} (h0 : 0 ≤ n) (h1 : n ≤ 255) (hQ : okQ D rules stops q = true) (hO : One rules.length nu) : ∀ (d i : Nat) (R' : List (List Int)) (S' : List Bool), i + d = rules.length → R'.length = rules.length → S'.length = rules.length →
    (∀ x : Int, 0 ≤ x → x < (i : Int) → rd_L1 R' (rd nu x) = nm nu (rd_L1 rules x)) → (∀ x : Int, 0 ≤ x → x < (i : Int) → rdOf false S' (rd nu x) = rdOf false stops x) →
    (∀ w ∈ R', w.length ≤ 200 ∧ ∀ x ∈ w, 0 ≤ x ∧ x < (rules.length : Int)) →
    Ev (fun k => standstilllaw07_TagNames.l1 k q nu n (i : Int) D rules stops D R' S') true := by
  obtain ⟨hT, hq⟩ := okQ_true hQ
  obtain ⟨t1, t2, t3, t4, t5, t6⟩ := okT_true hT
  have hlen := hO.len
  intro d
  induction d with
  | zero =>
    intro i R' S' hi hRl hSl hr hs hw
    have hi' : i = rules.length := by omega
    subst hi'
    exact tn_fin h0 h1 hQ hO hRl hSl hr hs hw
  | succ d ih =>
    intro i R' S' hi hRl hSl hr hs hw
    have hlt : i < rules.length := by omega
    have hwd := t6 _ (rdL_mem (l := rules) (x := (i : Int)) (by omega) (by omega))
    have hnm := named_ev nu (rd_L1 rules (i : Int)) (by omega) (fun x hx => by rw [hlen]; exact hwd.2 x hx)
    obtain ⟨a0, a1⟩ := hO.ok (i : Int) (by omega) (by omega)
    have ih := ih (i + 1) (R'.set (rd nu (i : Int)).toNat (nm nu (rd_L1 rules (i : Int)))) (S'.set (rd nu (i : Int)).toNat (rdOf false stops (i : Int))) (by omega) (by rw [List.length_set]; exact hRl) (by rw [List.length_set]; exact hSl)
      (fun x x0 x1 => by
        obtain ⟨b0, b1⟩ := hO.ok x x0 (by omega)
        rw [rdL_set a0 (by omega) b0]
        by_cases e : x = (i : Int)
        · subst e; rw [if_pos rfl]
        · rw [if_neg (fun h => hO.inj x (i : Int) x0 (by omega) (by omega) h.symm)]
          exact hr x x0 (by omega))
      (fun x x0 x1 => by
        obtain ⟨b0, b1⟩ := hO.ok x x0 (by omega)
        rw [rdOf_set a0 (by omega) b0]
        by_cases e : x = (i : Int)
        · subst e; rw [if_pos rfl]
        · rw [if_neg (fun h => hO.inj x (i : Int) x0 (by omega) (by omega) h.symm)]
          exact hs x x0 (by omega))
      (fun w h => by
        rcases List.mem_or_eq_of_mem_set h with h | h
        · exact hw w h
        · rw [h]
          refine ⟨?_, nm_ok hO.ok hwd.2⟩
          unfold nm
          rw [List.length_map]
          exact hwd.1)
    rw [Ev_succ]
    simp only [standstilllaw07_TagNames.l1, Ev_ite, Ev_none]
    rw [if_pos (by omega), if_pos (by omega), if_pos (by omega), Ev_bind hnm]
    simp only [Ev_ite, Ev_none]
    rw [if_pos (by omega), if_pos a0, if_pos (by omega), if_pos (by omega), wrap_nat i (by omega)]
    exact ih
theorem tn_met {D : Int} {rules : List (List Int)} {stops : List Bool} {q nu : List Int} {n : Int} (h0 : 0 ≤ n) (h1 : n ≤ 255) (hQ : okQ D rules stops q = true) (hlen : nu.length = rules.length) : ∀ (d i : Nat) (met : List Bool), i + d = rules.length → met.length = rules.length →
    (∀ x : Int, 0 ≤ x → x < (i : Int) → 0 ≤ rd nu x ∧ rd nu x < (rules.length : Int)) → (∀ x y : Int, 0 ≤ x → x < y → y < (i : Int) → rd nu x ≠ rd nu y) → (∀ x : Int, 0 ≤ x → x < (i : Int) → rdOf false met (rd nu x) = true) →
    Ev (fun k => standstilllaw07_TagNames.l0 k q nu n met (i : Int) D rules stops) true := by
  obtain ⟨hT, hq⟩ := okQ_true hQ
  obtain ⟨t1, t2, t3, t4, t5, t6⟩ := okT_true hT
  intro d
  induction d with
  | zero =>
    intro i met hi hm hok hinj hmet
    have hi' : i = rules.length := by omega
    subst hi'
    have hO : One rules.length nu := ⟨hlen, hok, hinj⟩
    have := tn_loop h0 h1 hQ hO rules.length 0 (List.replicate nu.length []) (List.replicate nu.length false) (by omega) (by rw [List.length_replicate]; exact hlen) (by rw [List.length_replicate]; exact hlen) (fun x x0 x1 => by omega) (fun x x0 x1 => by omega) (fun w h => by
      rw [List.mem_replicate] at h
      rw [h.2]
      exact ⟨by simp, fun x hx => by cases hx⟩)
    rw [Ev_succ]
    simp only [standstilllaw07_TagNames.l0, Ev_ite, Ev_none, Int.toNat_natCast]
    rw [if_neg (by omega), if_pos (by omega), if_pos (by omega), if_pos (by omega)]
    exact this
  | succ d ih =>
    intro i met hi hm hok hinj hmet
    have hlt : i < rules.length := by omega
    rw [Ev_succ]
    simp only [standstilllaw07_TagNames.l0, Ev_ite, Ev_none]
    rw [if_pos (by omega), if_pos (by omega)]
    by_cases c1 : rd nu (i : Int) < 0
    · rw [if_pos c1]; exact awake_b
    rw [if_neg c1]
    by_cases c2 : rd nu (i : Int) ≥ (nu.length : Int)
    · rw [if_pos c2]; exact awake_b
    rw [if_neg c2, if_pos (by omega), if_pos (by omega)]
    by_cases c3 : rdOf false met (rd nu (i : Int)) = true
    · rw [if_pos c3]; exact awake_b
    rw [if_neg c3, wrap_nat i (by omega)]
    have hset : ∀ j : Int, 0 ≤ j → rdOf false (met.set (rd nu (i : Int)).toNat true) j = if rd nu (i : Int) = j then true else rdOf false met j := fun j hj => rdOf_set (by omega) (by omega) hj
    refine ih (i + 1) (met.set (rd nu (i : Int)).toNat true) (by omega) (by rw [List.length_set]; exact hm) (fun x x0 x1 => ?_) (fun x y x0 xy y1 => ?_) (fun x x0 x1 => ?_)
    · by_cases e : x = (i : Int)
      · subst e; omega
      · exact hok x x0 (by omega)
    · by_cases e : y = (i : Int)
      · subst e
        intro h
        apply c3
        rw [← h]
        exact hmet x x0 xy
      · exact hinj x y x0 xy (by omega)
    · by_cases e : x = (i : Int)
      · subst e
        rw [hset _ (by omega), if_pos rfl]
      · rw [hset _ (hok x x0 (by omega)).1]
        split
        · rfl
        · exact hmet x x0 (by omega)
theorem wf_u8 {x : Int} (h : (Lit.int .u8 x).wf = true) : 0 ≤ x ∧ x ≤ 255 := by
  simp only [Lit.wf, IntKind.min, IntKind.max, IntKind.signed, IntKind.bits, Bool.and_eq_true, decide_eq_true_eq] at h
  simp at h
  omega
theorem TagNames : standstilllaw07_TagNames.Pure := by
  intro D rules stops q nu n _ _ _ _ _ hn
  apply Ev.rounds
  obtain ⟨n0, n1⟩ := wf_u8 hn
  have hj : Ev (fun k => standstilllaw07_TagNames.j0 k q nu n true D rules stops) true := by
    rw [Ev_succ]
    simp only [standstilllaw07_TagNames.j0, if_true]
    exact awake_b
  obtain ⟨v, hv, _⟩ := wide_ev D rules stops q
  unfold standstilllaw07_TagNames.f
  rw [Ev_bind hv]
  cases v with
  | true => simp only [if_true]; exact hj
  | false =>
    simp only [Bool.false_eq_true, if_false]
    rw [Ev_bind (ref_Fits_ev D rules stops q)]
    cases hQ : okQ D rules stops q with
    | false => simp only [Bool.false_eq_true, if_false]; exact hj
    | true =>
      simp only [if_true]
      by_cases c : (nu.length : Int) = (rules.length : Int)
      · have hb : ((nu.length : Int) != (rules.length : Int)) = false := by rw [c]; simp
        rw [hb, Ev_succ]
        obtain ⟨hT, hq⟩ := okQ_true hQ
        obtain ⟨t1, t2, t3, t4, t5, t6⟩ := okT_true hT
        simp only [standstilllaw07_TagNames.j0, Ev_ite, Ev_none, Bool.false_eq_true, if_false, Int.toNat_natCast]
        rw [if_pos (by omega), if_pos (by omega)]
        exact tn_met n0 n1 hQ (by omega) rules.length 0 (List.replicate nu.length false) (by omega) (by rw [List.length_replicate]; omega) (fun x x0 x1 => by omega) (fun x y x0 x1 x2 => by omega) (fun x x0 x1 => by omega)
      · have hb : ((nu.length : Int) != (rules.length : Int)) = true := by rw [bne_iff_ne]; exact c
        rw [hb]; exact hj

end Go.Proofs.Ytkinnaegedbanaa.Pure
