/- The plain law of TagParts: n + k steps are n steps and then k steps, for tag systems and cyclic ones; a step changes the length of a queue by that of a rule less Delete. No condition beyond what every argument has (numbers of their kind, lists within memory). -/
import Derived.Test.YtkinnaegedbanaaAid
import Derived.Test.YtkinnaegedbanaaPTagPartsx6
namespace Go.Proofs.Ytkinnaegedbanaa.Pure
open Go.RowKit Go.Proofs.Ytkinnaegedbanaa.PTagParts Go.Proofs.YtkinnaegedbanaaW.PrintWords Go.Proofs.YtkinnaegedbanaaW.PrintLast Go.Proofs.YtkinnaegedbanaaW.PrintMore Go.Proofs.YtkinnaegedbanaaAid
set_option linter.unusedVariables false
set_option linter.unusedSimpArgs false

theorem wrap_nat (i : Nat) (h : i ≤ 4611686018427387904) : wrap64 ((i : Int) + 1) = ((i + 1 : Nat) : Int) := by
  rw [wrap_id (by omega) (by omega)]; omega
theorem getD_lt {α : Type} (l : List α) {i : Nat} (d : α) (h : i < l.length) : l.getD i d = l[i] := by
  simp [List.getD_eq_getElem?_getD, h]
theorem rdL (l : List (List Int)) (i : Nat) (h : i < l.length) : rd_L1 l (i : Int) = l[i] := by
  simp [rd_L1, List.getD_eq_getElem?_getD, h]
/-! Letters of an alphabet. -/
def lok (n x : Int) : Bool := decide (0 ≤ x) && decide (x < n)
theorem tl_loop (n : Int) (l : List Int) (hl : l.length ≤ 1000000000000000) : ∀ (d i : Nat), i + d = l.length → Ev (fun k => tag_letters.l0 k n l (l.length : Int) (i : Int)) ((l.drop i).all (lok n)) := by
  intro d
  induction d with
  | zero =>
    intro i hi
    rw [Ev_succ]
    simp only [tag_letters.l0, Ev_ite, Ev_some, Ev_none]
    rw [if_neg (by omega), List.drop_eq_nil_of_le (by omega)]
    rfl
  | succ d ih =>
    intro i hi
    have hlt : i < l.length := by omega
    have ih := ih (i + 1) (by omega)
    rw [drop_cons l i hlt, List.all_cons, Ev_succ]
    simp only [tag_letters.l0, Ev_ite, Ev_some, Ev_none]
    rw [if_pos (by omega), if_pos (by omega), if_pos (by omega), rd_nat l i hlt, wrap_nat i (by omega)]
    by_cases h0 : l[i] < 0
    · rw [if_pos h0, lok, decide_eq_false (by omega)]; rfl
    · rw [if_neg h0]
      by_cases h1 : l[i] ≥ n
      · rw [if_pos h1, lok, decide_eq_true (by omega), decide_eq_false (by omega)]; rfl
      · rw [if_neg h1, lok, decide_eq_true (by omega), decide_eq_true (by omega)]
        exact ih
theorem tag_letters_ev (n : Int) (l : List Int) (hl : l.length ≤ 1000000000000000) : Ev (fun k => tag_letters.f k l n) (l.all (lok n)) := tl_loop n l hl l.length 0 (by omega)
theorem rl_loop (n : Int) (l : List Int) (hl : l.length ≤ 1000000000000000) : ∀ (d i : Nat), i + d = l.length → Ev (fun k => standstillref07_letters.l0 k l n (i : Int)) ((l.drop i).all (lok n)) := by
  intro d
  induction d with
  | zero =>
    intro i hi
    rw [Ev_succ]
    simp only [standstillref07_letters.l0, Ev_ite, Ev_some, Ev_none]
    rw [if_neg (by omega), List.drop_eq_nil_of_le (by omega)]
    rfl
  | succ d ih =>
    intro i hi
    have hlt : i < l.length := by omega
    have ih := ih (i + 1) (by omega)
    rw [drop_cons l i hlt, List.all_cons, Ev_succ]
    simp only [standstillref07_letters.l0, Ev_ite, Ev_some, Ev_none]
    have hgo : lok n l[i] = true → Ev (fun k => standstillref07_letters.l0 k l n (wrap64 ((i : Int) + 1))) (lok n l[i] && (l.drop (i + 1)).all (lok n)) := by
      intro h
      rw [wrap_nat i (by omega), h, Bool.true_and]
      exact ih
    have hno : lok n l[i] = false → (false = (lok n l[i] && (l.drop (i + 1)).all (lok n))) := by
      intro h
      rw [h, Bool.false_and]
    rw [rd_nat l i hlt]
    generalize l[i] = x at hgo hno ⊢
    simp only [lok, Bool.and_eq_true, decide_eq_true_eq, Bool.and_eq_false_iff, decide_eq_false_iff_not] at hgo hno
    repeat' split
    all_goals first | (exfalso; omega) | (refine hgo ?_; omega) | (refine hno ?_; omega)
theorem ref_letters_ev (n : Int) (l : List Int) (hl : l.length ≤ 1000000000000000) : Ev (fun k => standstillref07_letters.f k l n) (l.all (lok n)) := rl_loop n l hl l.length 0 (by omega)
/-! Tag systems. -/
def wok (n : Int) (w : List Int) : Bool := decide (w.length ≤ 200) && w.all (lok n)
def okT (D : Int) (rules : List (List Int)) (stops : List Bool) : Bool := decide (1 ≤ D ∧ D ≤ 4 ∧ 1 ≤ rules.length ∧ rules.length ≤ 600 ∧ stops.length = rules.length) && rules.all (wok rules.length)
theorem tv_loop (rules : List (List Int)) (hn : rules.length ≤ 600) : ∀ (d i : Nat), i + d = rules.length → Ev (fun k => tag_Valid.l0 k (rules.length : Int) rules (rules.length : Int) (i : Int)) ((rules.drop i).all (wok rules.length)) := by
  intro d
  induction d with
  | zero =>
    intro i hi
    rw [Ev_succ]
    simp only [tag_Valid.l0, Ev_ite, Ev_some, Ev_none]
    rw [if_neg (by omega), List.drop_eq_nil_of_le (by omega)]
    rfl
  | succ d ih =>
    intro i hi
    have hlt : i < rules.length := by omega
    have ih := ih (i + 1) (by omega)
    rw [drop_cons rules i hlt, List.all_cons, Ev_succ]
    simp only [tag_Valid.l0, Ev_ite, Ev_some, Ev_none]
    rw [if_pos (by omega), if_pos (by omega), if_pos (by omega), rdL rules i hlt, wrap_nat i (by omega)]
    by_cases h0 : ((rules[i].length : Int)) > 200
    · rw [if_pos h0, wok, decide_eq_false (by omega)]; rfl
    · rw [if_neg h0, Ev_bind (tag_letters_ev (rules.length : Int) rules[i] (by omega))]
      simp only [Ev_ite, Ev_some]
      rw [wok, decide_eq_true (by omega), Bool.true_and]
      by_cases h1 : rules[i].all (lok rules.length) = true
      · rw [if_pos h1, h1, Bool.true_and]; exact ih
      · rw [if_neg h1, Bool.eq_false_iff.2 h1, Bool.false_and]
theorem tag_Valid_ev (D : Int) (rules : List (List Int)) (stops : List Bool) : Ev (fun k => tag_Valid.f k D rules stops) (okT D rules stops) := by
  unfold tag_Valid.f
  have hj : ∀ b, (b = true → ¬ (1 ≤ D ∧ D ≤ 4 ∧ 1 ≤ rules.length ∧ rules.length ≤ 600 ∧ stops.length = rules.length)) → (b = false → (1 ≤ D ∧ D ≤ 4 ∧ 1 ≤ rules.length ∧ rules.length ≤ 600 ∧ stops.length = rules.length)) → Ev (fun k => tag_Valid.j0 k (rules.length : Int) b D rules stops) (okT D rules stops) := by
    intro b h1 h2
    rw [Ev_succ]
    simp only [tag_Valid.j0, Ev_ite, Ev_some]
    cases b with
    | true => rw [if_pos rfl, okT, decide_eq_false (h1 rfl), Bool.false_and]
    | false =>
      rw [if_neg (by simp), okT, decide_eq_true (h2 rfl), Bool.true_and]
      exact tv_loop rules (h2 rfl).2.2.2.1 rules.length 0 (by omega)
  simp only [Ev_ite]
  repeat' split
  all_goals refine hj _ (fun h => ?_) (fun h => ?_)
  all_goals first | (cases h; done) | omega | (simp at h; omega)
theorem rv_loop (D : Int) (rules : List (List Int)) (stops : List Bool) (hn : rules.length ≤ 600) : ∀ (d i : Nat), i + d = rules.length → Ev (fun k => standstillref07_Valid.l0 k (rules.length : Int) (i : Int) D rules stops) ((rules.drop i).all (wok rules.length)) := by
  intro d
  induction d with
  | zero =>
    intro i hi
    rw [Ev_succ]
    simp only [standstillref07_Valid.l0, Ev_ite, Ev_some, Ev_none]
    rw [if_neg (by omega), List.drop_eq_nil_of_le (by omega)]
    rfl
  | succ d ih =>
    intro i hi
    have hlt : i < rules.length := by omega
    have ih := ih (i + 1) (by omega)
    rw [drop_cons rules i hlt, List.all_cons, Ev_succ]
    simp only [standstillref07_Valid.l0, Ev_ite, Ev_some, Ev_none]
    rw [if_pos (by omega), if_pos (by omega), if_pos (by omega), rdL rules i hlt, wrap_nat i (by omega)]
    by_cases h0 : ((rules[i].length : Int)) > 200
    · rw [if_pos h0, wok, decide_eq_false (by omega)]; rfl
    · rw [if_neg h0, Ev_bind (ref_letters_ev (rules.length : Int) rules[i] (by omega))]
      simp only [Ev_ite, Ev_some]
      rw [wok, decide_eq_true (by omega), Bool.true_and]
      by_cases h1 : rules[i].all (lok rules.length) = true
      · rw [if_pos h1, h1, Bool.true_and]; exact ih
      · rw [if_neg h1, Bool.eq_false_iff.2 h1, Bool.false_and]
theorem ref_Valid_ev (D : Int) (rules : List (List Int)) (stops : List Bool) : Ev (fun k => standstillref07_Valid.f k D rules stops) (okT D rules stops) := by
  unfold standstillref07_Valid.f
  have hj : ∀ b, (b = true → ¬ (1 ≤ D ∧ D ≤ 4 ∧ 1 ≤ rules.length ∧ rules.length ≤ 600 ∧ stops.length = rules.length)) → (b = false → (1 ≤ D ∧ D ≤ 4 ∧ 1 ≤ rules.length ∧ rules.length ≤ 600 ∧ stops.length = rules.length)) → Ev (fun k => standstillref07_Valid.j0 k (rules.length : Int) b D rules stops) (okT D rules stops) := by
    intro b h1 h2
    rw [Ev_succ]
    simp only [standstillref07_Valid.j0, Ev_ite, Ev_some]
    cases b with
    | true => rw [if_pos rfl, okT, decide_eq_false (h1 rfl), Bool.false_and]
    | false =>
      rw [if_neg (by simp), okT, decide_eq_true (h2 rfl), Bool.true_and]
      exact rv_loop D rules stops (h2 rfl).2.2.2.1 rules.length 0 (by omega)
  simp only [Ev_ite]
  repeat' split
  all_goals refine hj _ (fun h => ?_) (fun h => ?_)
  all_goals first | (cases h; done) | omega | (simp at h; omega)
theorem okT_true {D : Int} {rules : List (List Int)} {stops : List Bool} (h : okT D rules stops = true) : 1 ≤ D ∧ D ≤ 4 ∧ 1 ≤ rules.length ∧ rules.length ≤ 600 ∧ stops.length = rules.length ∧ ∀ w ∈ rules, w.length ≤ 200 ∧ ∀ x ∈ w, 0 ≤ x ∧ x < rules.length := by
  simp only [okT, wok, lok, Bool.and_eq_true, decide_eq_true_eq, List.all_eq_true] at h
  exact ⟨h.1.1, h.1.2.1, h.1.2.2.1, h.1.2.2.2.1, h.1.2.2.2.2, h.2⟩
def okQ (D : Int) (rules : List (List Int)) (stops : List Bool) (q : List Int) : Bool := okT D rules stops && (decide (q.length ≤ 100000) && q.all (lok rules.length))
theorem tag_Fits_ev (D : Int) (rules : List (List Int)) (stops : List Bool) (q : List Int) : Ev (fun k => tag_Fits.f k D rules stops q) (okQ D rules stops q) := by
  unfold tag_Fits.f
  rw [Ev_bind (tag_Valid_ev D rules stops)]
  simp only [Ev_ite, Ev_some]
  by_cases hv : okT D rules stops = true
  · rw [if_pos hv, okQ, hv, Bool.true_and]
    by_cases hl : (q.length : Int) ≤ 100000
    · rw [if_pos hl, Ev_bind (tag_letters_ev _ q (by omega)), Ev_some, decide_eq_true (by omega), Bool.true_and]
    · rw [if_neg hl, decide_eq_false (by omega), Bool.false_and]
  · rw [if_neg hv, okQ, Bool.eq_false_iff.2 hv, Bool.false_and]
theorem ref_Fits_ev (D : Int) (rules : List (List Int)) (stops : List Bool) (q : List Int) : Ev (fun k => standstillref07_Fits.f k D rules stops q) (okQ D rules stops q) := by
  unfold standstillref07_Fits.f
  rw [Ev_bind (ref_Valid_ev D rules stops)]
  simp only [Ev_ite, Ev_some]
  by_cases hv : okT D rules stops = true
  · rw [if_pos hv, okQ, hv, Bool.true_and]
    by_cases hl : (q.length : Int) ≤ 100000
    · rw [if_pos hl, Ev_bind (ref_letters_ev _ q (by omega)), Ev_some, decide_eq_true (by omega), Bool.true_and]
    · rw [if_neg hl, decide_eq_false (by omega), Bool.false_and]
  · rw [if_neg hv, okQ, Bool.eq_false_iff.2 hv, Bool.false_and]
theorem okQ_true {D : Int} {rules : List (List Int)} {stops : List Bool} {q : List Int} (h : okQ D rules stops q = true) : okT D rules stops = true ∧ q.length ≤ 100000 ∧ ∀ x ∈ q, 0 ≤ x ∧ x < rules.length := by
  simp only [okQ, lok, Bool.and_eq_true, decide_eq_true_eq, List.all_eq_true] at h
  exact ⟨h.1, h.2.1, h.2.2⟩
/-! Equal lists. -/
theorem same_loop (a b : List Int) (hl : a.length = b.length) (hs : a.length ≤ 1000000000000000) : ∀ (d i : Nat), i + d = a.length → Ev (fun k => standstillref07_Same.l0 k a b (i : Int)) (decide (a.drop i = b.drop i)) := by
  intro d
  induction d with
  | zero =>
    intro i hi
    rw [Ev_succ]
    simp only [standstillref07_Same.l0, Ev_ite, Ev_some, Ev_none]
    rw [if_neg (by omega), List.drop_eq_nil_of_le (by omega), List.drop_eq_nil_of_le (by omega)]
    rfl
  | succ d ih =>
    intro i hi
    have ha : i < a.length := by omega
    have hb : i < b.length := by omega
    have ih := ih (i + 1) (by omega)
    rw [drop_cons a i ha, drop_cons b i hb, Ev_succ]
    simp only [standstillref07_Same.l0, Ev_ite, Ev_some, Ev_none]
    rw [if_pos (by omega), if_pos (by omega), if_pos (by omega), rd_nat a i ha, rd_nat b i hb, wrap_nat i (by omega)]
    generalize List.drop (i + 1) a = A at ih ⊢
    generalize List.drop (i + 1) b = B at ih ⊢
    generalize a[i] = x
    generalize b[i] = y
    by_cases h : x = y
    · rw [if_pos h]; simpa [h] using ih
    · rw [if_neg h]; simp [h]
theorem Same_ev (a b : List Int) (hs : a.length ≤ 1000000000000000) : Ev (fun k => standstillref07_Same.f k a b) (decide (a = b)) := by
  unfold standstillref07_Same.f
  simp only [Ev_ite, Ev_some]
  by_cases h : (a.length : Int) = (b.length : Int)
  · rw [if_pos h]
    exact same_loop a b (by omega) hs a.length 0 (by omega)
  · rw [if_neg h, decide_eq_false]
    rintro rfl
    exact h rfl

theorem wide_ev (D : Int) (rules : List (List Int)) (stops : List Bool) (q : List Int) : ∃ v, Ev (fun k => standstilllaw07_wide.f k D rules stops q) v ∧ (v = false → rules.length ≤ 700) := by
  have loop : ∀ (d i : Nat) (a : Int), i + d = rules.length → i ≤ 701 → ∃ v, Ev (fun k => standstilllaw07_wide.l0 k a (i : Int) D rules stops) v ∧ (v = false → rules.length ≤ 700) := by
    intro d
    induction d with
    | zero =>
      intro i a hi h7
      refine ⟨if a > 20000 then true else decide ((rules.length : Int) > 700), ?_, ?_⟩
      · rw [Ev_succ]
        simp only [standstilllaw07_wide.l0, Ev_ite, Ev_some, Ev_none]
        rw [if_neg (by omega)]
        split <;> rfl
      · split
        · intro h; cases h
        · intro h; have := of_decide_eq_false h; omega
    | succ d ih =>
      intro i a hi h7
      by_cases h : i ≤ 700
      · obtain ⟨v, hv, hv2⟩ := ih (i + 1) (wrap64 (a + ((rd_L1 rules i).length : Int))) (by omega) (by omega)
        refine ⟨v, ?_, hv2⟩
        rw [Ev_succ]
        simp only [standstilllaw07_wide.l0, Ev_ite, Ev_some, Ev_none]
        rw [if_pos (by omega), if_pos (by omega), if_pos (by omega), wrap_nat i (by omega)]
        exact hv
      · refine ⟨true, ?_, fun h => by cases h⟩
        rw [Ev_succ]
        simp only [standstilllaw07_wide.l0, Ev_ite, Ev_some, Ev_none]
        rw [if_pos (by omega), if_neg (by omega)]
        split
        · trivial
        · exact decide_eq_true (by omega)
  exact loop rules.length 0 _ (by omega) (by omega)
theorem awake_true : Ev (fun k => standstilllaw07_awake.f k) true := Ev.of (k := 60) standstilllaw07_awake.mono (by decide +kernel)

/-! Runs in parts. -/
def qok (n : Nat) (q : List Int) : Prop := q.length ≤ 100000 ∧ ∀ x ∈ q, 0 ≤ x ∧ x < n
theorem rd_mem {l : List Int} (h : 0 < l.length) : rd l 0 ∈ l := by
  have : rd l 0 = l[0] := by have := rd_nat l 0 h; simpa using this
  rw [this]; exact List.getElem_mem h
theorem rdL_mem {l : List (List Int)} {x : Int} (h0 : 0 ≤ x) (h1 : x < l.length) : rd_L1 l x ∈ l := by
  have e : rd_L1 l x = l[x.toNat]'(by omega) := by
    have := rdL l x.toNat (by omega)
    rwa [Int.toNat_of_nonneg h0] at this
  rw [e]; exact List.getElem_mem _
theorem qok_drop {n : Nat} {q w : List Int} {d : Nat} (hq : ∀ x ∈ q, 0 ≤ x ∧ x < (n : Int)) (hw : ∀ x ∈ w, 0 ≤ x ∧ x < (n : Int)) : ∀ x ∈ (q ++ w).drop d, 0 ≤ x ∧ x < (n : Int) := by
  intro x hx
  rcases List.mem_append.1 (List.mem_of_mem_drop hx) with h | h
  · exact hq x h
  · exact hw x h
theorem trun_ok {D : Int} {rules : List (List Int)} {stops : List Bool} (hT : okT D rules stops = true) : ∀ (n : Nat) (q : List Int) (i : Int), qok rules.length q → ∃ z, trun D rules stops n q i = some z ∧ ((z.2.2 = 0 ∧ qok rules.length z.1 ∧ i ≤ z.2.1 ∧ z.2.1 ≤ i + n) ∨ z = ([], 0, 4)) := by
  obtain ⟨hD0, hD1, hn0, hn1, hs, hw⟩ := okT_true hT
  intro n
  induction n with
  | zero => intro q i hq; exact ⟨_, rfl, Or.inl ⟨rfl, hq, by simp, by simp⟩⟩
  | succ n ih =>
    intro q i hq
    simp only [trun]
    by_cases h1 : (q.length : Int) < D
    · rw [if_pos h1]; exact ⟨_, rfl, Or.inl ⟨rfl, hq, by simp, by simp; omega⟩⟩
    · rw [if_neg h1]
      have hm := hq.2 _ (rd_mem (l := q) (by omega))
      rw [if_pos (by rw [hs]; exact hm)]
      by_cases h2 : rdOf false stops (rd q 0) = true
      · rw [if_pos h2]; exact ⟨_, rfl, Or.inl ⟨rfl, hq, by simp, by simp; omega⟩⟩
      · rw [if_neg h2]
        obtain ⟨w1, w2⟩ := hw _ (rdL_mem hm.1 hm.2)
        rw [if_pos ⟨hm.2, by omega⟩]
        by_cases h3 : (((q ++ rd_L1 rules (rd q 0)).drop D.toNat).length : Int) > 100000
        · rw [if_pos h3]; exact ⟨_, rfl, Or.inr rfl⟩
        · rw [if_neg h3]
          obtain ⟨z, hz, hc⟩ := ih ((q ++ rd_L1 rules (rd q 0)).drop D.toNat) (i + 1) ⟨by omega, qok_drop hq.2 w2⟩
          refine ⟨z, hz, ?_⟩
          rcases hc with ⟨a, b, c, d⟩ | h
          · exact Or.inl ⟨a, b, by omega, by push_cast; omega⟩
          · exact Or.inr h
theorem trun_add {D : Int} {rules : List (List Int)} {stops : List Bool} (k : Nat) : ∀ (n : Nat) (q : List Int) (i : Int) (q' : List Int) (i' : Int), trun D rules stops n q i = some (q', i', 0) → trun D rules stops (n + k) q i = trun D rules stops k q' i' := by
  intro n
  induction n with
  | zero =>
    intro q i q' i' h
    simp only [trun, Option.some.injEq, Prod.mk.injEq] at h
    obtain ⟨rfl, rfl, _⟩ := h
    rw [Nat.zero_add]
  | succ n ih =>
    intro q i q' i' h
    rw [show n + 1 + k = (n + k) + 1 by omega]
    simp only [trun] at h ⊢
    by_cases h1 : (q.length : Int) < D
    · rw [if_pos h1] at h ⊢
      simp only [Option.some.injEq, Prod.mk.injEq] at h
      obtain ⟨rfl, rfl, _⟩ := h
      cases k with
      | zero => rfl
      | succ k => simp only [trun]; rw [if_pos h1]
    · rw [if_neg h1] at h ⊢
      by_cases hx : 0 ≤ rd q 0 ∧ rd q 0 < (stops.length : Int)
      rotate_left
      · rw [if_neg hx] at h; cases h
      rw [if_pos hx] at h ⊢
      by_cases h2 : rdOf false stops (rd q 0) = true
      · rw [if_pos h2] at h ⊢
        simp only [Option.some.injEq, Prod.mk.injEq] at h
        obtain ⟨rfl, rfl, _⟩ := h
        cases k with
        | zero => rfl
        | succ k => simp only [trun]; rw [if_neg h1, if_pos hx, if_pos h2]
      · rw [if_neg h2] at h ⊢
        by_cases hr : rd q 0 < (rules.length : Int) ∧ (rd_L1 rules (rd q 0)).length ≤ 1048576
        rotate_left
        · rw [if_neg hr] at h; cases h
        rw [if_pos hr] at h ⊢
        by_cases h3 : (((q ++ rd_L1 rules (rd q 0)).drop D.toNat).length : Int) > 100000
        · rw [if_pos h3] at h
          simp at h
        · rw [if_neg h3] at h ⊢
          exact ih _ _ _ _ h
theorem trun_bad {D : Int} {rules : List (List Int)} {stops : List Bool} (k : Nat) : ∀ (n : Nat) (q : List Int) (i : Int), trun D rules stops n q i = some ([], 0, 4) → trun D rules stops (n + k) q i = some ([], 0, 4) := by
  intro n
  induction n with
  | zero => intro q i h; simp [trun] at h
  | succ n ih =>
    intro q i h
    rw [show n + 1 + k = (n + k) + 1 by omega]
    simp only [trun] at h ⊢
    by_cases h1 : (q.length : Int) < D
    · rw [if_pos h1] at h; simp at h
    · rw [if_neg h1] at h ⊢
      by_cases hx : 0 ≤ rd q 0 ∧ rd q 0 < (stops.length : Int)
      rotate_left
      · rw [if_neg hx] at h; cases h
      rw [if_pos hx] at h ⊢
      by_cases h2 : rdOf false stops (rd q 0) = true
      · rw [if_pos h2] at h; simp at h
      · rw [if_neg h2] at h ⊢
        by_cases hr : rd q 0 < (rules.length : Int) ∧ (rd_L1 rules (rd q 0)).length ≤ 1048576
        rotate_left
        · rw [if_neg hr] at h; cases h
        rw [if_pos hr] at h ⊢
        by_cases h3 : (((q ++ rd_L1 rules (rd q 0)).drop D.toNat).length : Int) > 100000
        · rw [if_pos h3]
        · rw [if_neg h3] at h ⊢
          exact ih _ _ h
def shift (c : Int) (z : List Int × Int × Int) : List Int × Int × Int := if z.2.2 = 0 then (z.1, z.2.1 + c, z.2.2) else z
theorem trun_shift {D : Int} {rules : List (List Int)} {stops : List Bool} (c : Int) : ∀ (n : Nat) (q : List Int) (i : Int), trun D rules stops n q (i + c) = (trun D rules stops n q i).map (shift c) := by
  intro n
  induction n with
  | zero => intro q i; simp [trun, shift]
  | succ n ih =>
    intro q i
    simp only [trun]
    repeat' split
    all_goals first | rfl | (simp [shift]; done) | (rw [show i + c + 1 = i + 1 + c by omega]; exact ih _ _)
theorem tag_Run_ev {D : Int} {rules : List (List Int)} {stops : List Bool} {q : List Int} {n : Int} {z : List Int × Int × Int} (hQ : okQ D rules stops q = true) (h0 : 0 ≤ n) (h1 : n ≤ 1000000) (hz : trun D rules stops n.toNat q 0 = some z) : Ev (fun k => tag_Run.f k D rules stops q n) z := by
  unfold tag_Run.f
  rw [Ev_bind (tag_Fits_ev D rules stops q), hQ]
  obtain ⟨hT, hq, _⟩ := okQ_true hQ
  obtain ⟨hD0, hD1, _⟩ := okT_true hT
  simp only [if_true, Ev_ite]
  rw [if_neg (by omega), if_neg (by omega), if_pos ⟨by omega, by omega, by omega⟩, Ev_const]
  exact hz
theorem tag_Run_no {D : Int} {rules : List (List Int)} {stops : List Bool} {q : List Int} {n : Int} (hQ : ¬ okQ D rules stops q = true) : Ev (fun k => tag_Run.f k D rules stops q n) ([], 0, 1) := by
  unfold tag_Run.f
  rw [Ev_bind (tag_Fits_ev D rules stops q)]
  simp only [Ev_ite, Ev_some]
  rw [if_neg hQ]
  trivial
theorem okQ_mk {D : Int} {rules : List (List Int)} {stops : List Bool} {q : List Int} (hT : okT D rules stops = true) (hq : qok rules.length q) : okQ D rules stops q = true := by
  simp only [okQ, lok, Bool.and_eq_true, decide_eq_true_eq, List.all_eq_true]
  exact ⟨hT, hq.1, hq.2⟩
/-! The cyclic ones. -/
def okW (words : List (List Int)) : Bool := decide (1 ≤ words.length ∧ words.length ≤ 2400) && words.all (fun w => decide (w.length ≤ 120000) && w.all (lok 2))
theorem vc_loop (words : List (List Int)) (hn : words.length ≤ 2400) : ∀ (d i : Nat), i + d = words.length → Ev (fun k => tag_ValidCyclic.l0 k words (words.length : Int) (i : Int)) ((words.drop i).all (fun w => decide (w.length ≤ 120000) && w.all (lok 2))) := by
  intro d
  induction d with
  | zero =>
    intro i hi
    rw [Ev_succ]
    simp only [tag_ValidCyclic.l0, Ev_ite, Ev_some, Ev_none]
    rw [if_neg (by omega), List.drop_eq_nil_of_le (by omega)]
    rfl
  | succ d ih =>
    intro i hi
    have hlt : i < words.length := by omega
    have ih := ih (i + 1) (by omega)
    rw [drop_cons words i hlt, List.all_cons, Ev_succ]
    simp only [tag_ValidCyclic.l0, Ev_ite, Ev_some, Ev_none]
    rw [if_pos (by omega), if_pos (by omega), if_pos (by omega), rdL words i hlt, wrap_nat i (by omega)]
    by_cases h0 : ((words[i].length : Int)) > 120000
    · rw [if_pos h0, decide_eq_false (by omega)]; rfl
    · rw [if_neg h0, Ev_bind (tag_letters_ev 2 words[i] (by omega))]
      simp only [Ev_ite, Ev_some]
      rw [decide_eq_true (by omega), Bool.true_and]
      by_cases h1 : words[i].all (lok 2) = true
      · rw [if_pos h1, h1, Bool.true_and]; exact ih
      · rw [if_neg h1, Bool.eq_false_iff.2 h1, Bool.false_and]
theorem tag_ValidCyclic_ev (words : List (List Int)) : Ev (fun k => tag_ValidCyclic.f k words) (okW words) := by
  unfold tag_ValidCyclic.f
  have hj : ∀ b, (b = true → ¬ (1 ≤ words.length ∧ words.length ≤ 2400)) → (b = false → (1 ≤ words.length ∧ words.length ≤ 2400)) → Ev (fun k => tag_ValidCyclic.j0 k b words) (okW words) := by
    intro b h1 h2
    rw [Ev_succ]
    simp only [tag_ValidCyclic.j0, Ev_ite, Ev_some]
    cases b with
    | true => rw [if_pos rfl, okW, decide_eq_false (h1 rfl), Bool.false_and]
    | false =>
      rw [if_neg (by simp), okW, decide_eq_true (h2 rfl), Bool.true_and]
      exact vc_loop words (h2 rfl).2 words.length 0 (by omega)
  simp only [Ev_ite]
  split
  · exact hj _ (fun _ => by omega) (fun h => by cases h)
  · exact hj _ (fun h => by simp at h; omega) (fun h => by simp at h; omega)
theorem okW_true {words : List (List Int)} (h : okW words = true) : 1 ≤ words.length ∧ words.length ≤ 2400 ∧ ∀ w ∈ words, w.length ≤ 120000 ∧ ∀ x ∈ w, 0 ≤ x ∧ x < 2 := by
  simp only [okW, lok, Bool.and_eq_true, decide_eq_true_eq, List.all_eq_true] at h
  exact ⟨h.1.1, h.1.2, h.2⟩
def okR (words : List (List Int)) (at_ : Int) (q : List Int) : Bool := okW words && (decide (0 ≤ at_) && decide (at_ < words.length) && decide (q.length ≤ 1000000) && q.all (lok 2))
theorem tag_FitsCyclic_ev (words : List (List Int)) (at_ : Int) (q : List Int) : Ev (fun k => tag_FitsCyclic.f k words at_ q) (okR words at_ q) := by
  unfold tag_FitsCyclic.f
  rw [Ev_bind (tag_ValidCyclic_ev words)]
  simp only [Ev_ite, Ev_some]
  by_cases hv : okW words = true
  · rw [if_pos hv, okR, hv, Bool.true_and]
    by_cases h1 : at_ ≥ 0
    · rw [if_pos h1, decide_eq_true (by omega : 0 ≤ at_), Bool.true_and]
      by_cases h2 : at_ < words.length
      · rw [if_pos h2, decide_eq_true h2, Bool.true_and]
        by_cases h3 : (q.length : Int) ≤ 1000000
        · rw [if_pos h3, decide_eq_true (by omega), Bool.true_and, Ev_bind (tag_letters_ev 2 q (by omega)), Ev_some]
        · rw [if_neg h3, decide_eq_false (by omega), Bool.false_and]
      · rw [if_neg h2, decide_eq_false h2]; rfl
    · rw [if_neg h1, decide_eq_false (by omega : ¬ 0 ≤ at_)]; rfl
  · rw [if_neg hv, okR, Bool.eq_false_iff.2 hv, Bool.false_and]
def rok (words : List (List Int)) (at_ : Int) (q : List Int) : Prop := 0 ≤ at_ ∧ at_ < words.length ∧ q.length ≤ 1000000 ∧ ∀ x ∈ q, 0 ≤ x ∧ x < 2
theorem okR_true {words : List (List Int)} {at_ : Int} {q : List Int} (h : okR words at_ q = true) : okW words = true ∧ rok words at_ q := by
  simp only [okR, lok, Bool.and_eq_true, decide_eq_true_eq, List.all_eq_true] at h
  exact ⟨h.1, h.2.1.1.1, h.2.1.1.2, h.2.1.2, h.2.2⟩
theorem okR_mk {words : List (List Int)} {at_ : Int} {q : List Int} (hW : okW words = true) (h : rok words at_ q) : okR words at_ q = true := by
  simp only [okR, lok, Bool.and_eq_true, decide_eq_true_eq, List.all_eq_true]
  exact ⟨hW, ⟨⟨h.1, h.2.1⟩, h.2.2.1⟩, h.2.2.2⟩
theorem next_at {at_ : Int} {L : Nat} (h0 : 0 ≤ at_) (h1 : at_ < L) : 0 ≤ Int.tmod (at_ + 1) L ∧ Int.tmod (at_ + 1) L < L := by
  rw [Int.tmod_eq_emod_of_nonneg (by omega)]
  exact ⟨Int.emod_nonneg _ (by omega), Int.emod_lt_of_pos _ (by omega)⟩
theorem troll_ok {words : List (List Int)} (hW : okW words = true) : ∀ (n : Nat) (at_ : Int) (q : List Int) (i : Int), rok words at_ q → ∃ z, troll words n at_ q i = some z ∧ ((z.2.2.2 = 0 ∧ rok words z.1 z.2.1 ∧ i ≤ z.2.2.1 ∧ z.2.2.1 ≤ i + n) ∨ z = (0, [], 0, 4)) := by
  obtain ⟨hn0, hn1, hw⟩ := okW_true hW
  intro n
  induction n with
  | zero => intro at_ q i hq; exact ⟨_, rfl, Or.inl ⟨rfl, hq, by simp, by simp⟩⟩
  | succ n ih =>
    intro at_ q i hq
    obtain ⟨a0, a1, a2, a3⟩ := hq
    simp only [troll]
    by_cases h1 : (q.length : Int) = 0
    · rw [if_pos h1]; exact ⟨_, rfl, Or.inl ⟨rfl, ⟨a0, a1, by simp, by simp⟩, by simp, by simp; omega⟩⟩
    · rw [if_neg h1]
      obtain ⟨w1, w2⟩ := hw _ (rdL_mem a0 a1)
      obtain ⟨b0, b1⟩ := next_at a0 a1
      rw [if_pos ⟨a0, a1, by omega, by omega⟩]
      by_cases h2 : rd q 0 = 1
      · rw [if_pos h2]
        by_cases h3 : (((q ++ rd_L1 words at_).drop 1).length : Int) > 1000000
        · rw [if_pos h3]; exact ⟨_, rfl, Or.inr rfl⟩
        · rw [if_neg h3]
          obtain ⟨z, hz, hc⟩ := ih (Int.tmod (at_ + 1) (words.length : Int)) ((q ++ rd_L1 words at_).drop 1) (i + 1) ⟨b0, b1, by omega, qok_drop (n := 2) a3 w2⟩
          refine ⟨z, hz, ?_⟩
          rcases hc with ⟨a, b, c, d⟩ | h
          · exact Or.inl ⟨a, b, by omega, by push_cast; omega⟩
          · exact Or.inr h
      · rw [if_neg h2]
        by_cases h3 : ((q.drop 1).length : Int) > 1000000
        · rw [if_pos h3]; exact ⟨_, rfl, Or.inr rfl⟩
        · rw [if_neg h3]
          obtain ⟨z, hz, hc⟩ := ih (Int.tmod (at_ + 1) (words.length : Int)) (q.drop 1) (i + 1) ⟨b0, b1, by omega, fun x hx => a3 x (List.mem_of_mem_drop hx)⟩
          refine ⟨z, hz, ?_⟩
          rcases hc with ⟨a, b, c, d⟩ | h
          · exact Or.inl ⟨a, b, by omega, by push_cast; omega⟩
          · exact Or.inr h
theorem troll_add {words : List (List Int)} (k : Nat) : ∀ (n : Nat) (at_ : Int) (q : List Int) (i : Int) (at' : Int) (q' : List Int) (i' : Int), troll words n at_ q i = some (at', q', i', 0) → troll words (n + k) at_ q i = troll words k at' q' i' := by
  intro n
  induction n with
  | zero =>
    intro at_ q i at' q' i' h
    simp only [troll, Option.some.injEq, Prod.mk.injEq] at h
    obtain ⟨rfl, rfl, rfl, _⟩ := h
    rw [Nat.zero_add]
  | succ n ih =>
    intro at_ q i at' q' i' h
    rw [show n + 1 + k = (n + k) + 1 by omega]
    simp only [troll] at h ⊢
    by_cases h1 : (q.length : Int) = 0
    · rw [if_pos h1] at h ⊢
      simp only [Option.some.injEq, Prod.mk.injEq] at h
      obtain ⟨rfl, rfl, rfl, _⟩ := h
      cases k with
      | zero => rfl
      | succ k => simp only [troll]; rw [if_pos (by simp)]
    · rw [if_neg h1] at h ⊢
      split at h
      · rename_i hx
        rw [if_pos hx]
        split at h
        · rename_i h2
          rw [if_pos h2]
          split at h
          · simp at h
          · rename_i h3
            rw [if_neg h3]
            exact ih _ _ _ _ _ _ h
        · rename_i h2
          rw [if_neg h2]
          split at h
          · simp at h
          · rename_i h3
            rw [if_neg h3]
            exact ih _ _ _ _ _ _ h
      · cases h
theorem troll_bad {words : List (List Int)} (k : Nat) : ∀ (n : Nat) (at_ : Int) (q : List Int) (i : Int), troll words n at_ q i = some (0, [], 0, 4) → troll words (n + k) at_ q i = some (0, [], 0, 4) := by
  intro n
  induction n with
  | zero => intro at_ q i h; simp [troll] at h
  | succ n ih =>
    intro at_ q i h
    rw [show n + 1 + k = (n + k) + 1 by omega]
    simp only [troll] at h ⊢
    by_cases h1 : (q.length : Int) = 0
    · rw [if_pos h1] at h; simp at h
    · rw [if_neg h1] at h ⊢
      split at h
      · rename_i hx
        rw [if_pos hx]
        split at h
        · rename_i h2
          rw [if_pos h2]
          split at h
          · rename_i h3; rw [if_pos h3]
          · rename_i h3
            rw [if_neg h3]
            exact ih _ _ _ h
        · rename_i h2
          rw [if_neg h2]
          split at h
          · rename_i h3; rw [if_pos h3]
          · rename_i h3
            rw [if_neg h3]
            exact ih _ _ _ h
      · cases h
def shiftC (c : Int) (z : Int × List Int × Int × Int) : Int × List Int × Int × Int := if z.2.2.2 = 0 then (z.1, z.2.1, z.2.2.1 + c, z.2.2.2) else z
theorem troll_shift {words : List (List Int)} (c : Int) : ∀ (n : Nat) (at_ : Int) (q : List Int) (i : Int), troll words n at_ q (i + c) = (troll words n at_ q i).map (shiftC c) := by
  intro n
  induction n with
  | zero => intro at_ q i; simp [troll, shiftC]
  | succ n ih =>
    intro at_ q i
    simp only [troll]
    repeat' split
    all_goals first | rfl | (simp [shiftC]; done) | (rw [show i + c + 1 = i + 1 + c by omega]; exact ih _ _ _)
theorem tag_Roll_ev {words : List (List Int)} {at_ : Int} {q : List Int} {n : Int} {z : Int × List Int × Int × Int} (hR : okR words at_ q = true) (h0 : 0 ≤ n) (h1 : n ≤ 1000000) (hz : troll words n.toNat at_ q 0 = some z) : Ev (fun k => tag_Roll.f k words at_ q n) z := by
  unfold tag_Roll.f
  rw [Ev_bind (tag_FitsCyclic_ev words at_ q), hR]
  obtain ⟨hW, _, _, hq, _⟩ := okR_true hR
  simp only [if_true, Ev_ite]
  rw [if_neg (by omega), if_neg (by omega), if_pos (by omega), Ev_const]
  exact hz
theorem tag_Roll_no {words : List (List Int)} {at_ : Int} {q : List Int} {n : Int} (hR : ¬ okR words at_ q = true) : Ev (fun k => tag_Roll.f k words at_ q n) (0, [], 0, 1) := by
  unfold tag_Roll.f
  rw [Ev_bind (tag_FitsCyclic_ev words at_ q)]
  simp only [Ev_ite, Ev_some]
  rw [if_neg hR]
  trivial

theorem SameWheel_refl (a : Int) (q : List Int) (hq : q.length ≤ 1000000000000000) : Ev (fun k => standstillref07_SameWheel.f k a q a q) true := by
  unfold standstillref07_SameWheel.f
  simp only [Ev_ite]
  rw [if_pos trivial, Ev_bind (Same_ev q q hq), Ev_some]
  simp
theorem wideC_ev (words : List (List Int)) (at_ : Int) (q : List Int) : ∃ v, Ev (fun k => standstilllaw07_wideCyclic.f k words at_ q) v := by
  have loop : ∀ (d i : Nat) (a : Int), i + d = words.length → i ≤ 3001 → ∃ v, Ev (fun k => standstilllaw07_wideCyclic.l0 k a (i : Int) words) v := by
    intro d
    induction d with
    | zero =>
      intro i a hi h7
      refine ⟨if a > 300000 then true else decide ((words.length : Int) > 3000), ?_⟩
      rw [Ev_succ]
      simp only [standstilllaw07_wideCyclic.l0, Ev_ite, Ev_some, Ev_none]
      rw [if_neg (by omega)]
      split <;> rfl
    | succ d ih =>
      intro i a hi h7
      by_cases h : i ≤ 3000
      · obtain ⟨v, hv⟩ := ih (i + 1) (wrap64 (a + ((rd_L1 words i).length : Int))) (by omega) (by omega)
        refine ⟨v, ?_⟩
        rw [Ev_succ]
        simp only [standstilllaw07_wideCyclic.l0, Ev_ite, Ev_some, Ev_none]
        rw [if_pos (by omega), if_pos (by omega), if_pos (by omega), wrap_nat i (by omega)]
        exact hv
      · refine ⟨true, ?_⟩
        rw [Ev_succ]
        simp only [standstilllaw07_wideCyclic.l0, Ev_ite, Ev_some, Ev_none]
        rw [if_pos (by omega), if_neg (by omega)]
        split
        · trivial
        · exact decide_eq_true (by omega)
  exact loop words.length 0 _ (by omega) (by omega)
theorem wf_u8 {x : Int} (h : (Lit.int .u8 x).wf = true) : 0 ≤ x ∧ x ≤ 255 := by
  simp only [Lit.wf, IntKind.min, IntKind.max, IntKind.signed, IntKind.bits, Bool.and_eq_true, decide_eq_true_eq] at h
  simp at h
  omega
theorem wrap_small {x : Int} (h0 : 0 ≤ x) (h1 : x ≤ 1000000) : wrap64 x = x := wrap_id (by omega) (by omega)
theorem tp_j2 (words : List (List Int)) (at_ : Int) (q : List Int) (n k : Nat) (hn : n ≤ 255) (hk : k ≤ 255) (bb : Bool) (hbb : bb = false) : Ev (fun K => standstilllaw07_TagParts.j2 K (n : Int) (k : Int) bb words at_ q) true := by
  subst hbb
  have e0 : ((n : Int) + (k : Int)).toNat = n + k := by omega
  rw [Ev_succ]
  simp only [standstilllaw07_TagParts.j2, Ev_ite]
  rw [if_neg (by decide), wrap_small (x := (n : Int)) (by omega) (by omega), wrap_small (x := (k : Int)) (by omega) (by omega), wrap_small (x := (n : Int) + (k : Int)) (by omega) (by omega)]
  by_cases hR : okR words at_ q = true
  · obtain ⟨hW, hr⟩ := okR_true hR
    obtain ⟨z, hz, hc⟩ := troll_ok hW n at_ q 0 hr
    rcases hc with ⟨h4, hrz, hi0, hi1⟩ | rfl
    · obtain ⟨zat, zq, zi, ze⟩ := z
      simp only at h4 hrz hi0 hi1
      subst h4
      obtain ⟨y, hy, hcy⟩ := troll_ok hW k zat zq 0 hrz
      have hadd := troll_add k n at_ q 0 zat zq zi hz
      have hsh := troll_shift (words := words) zi k zat zq 0
      rw [Int.zero_add, hy, ← hadd] at hsh
      have hA := tag_Roll_ev (n := (n : Int) + (k : Int)) hR (by omega) (by omega) (by rw [e0]; exact hsh)
      have hB := tag_Roll_ev (n := (n : Int)) hR (by omega) (by omega) hz
      have hC := tag_Roll_ev (n := (k : Int)) (okR_mk hW hrz) (by omega) (by omega) hy
      rcases hcy with ⟨h5, hry, hj0, hj1⟩ | rfl
      · obtain ⟨yat, yq, yi, ye⟩ := y
        simp only at h5 hry hj0 hj1
        subst h5
        replace hA : Ev (fun K => tag_Roll.f K words at_ q ((n : Int) + (k : Int))) (yat, yq, yi + zi, (0 : Int)) := hA
        have hyq := hry.2.2.1
        rw [Ev_bind hA, Ev_bind hB]
        simp only [Ev_ite]
        rw [if_pos trivial, Ev_bind hC]
        simp only [Ev_ite]
        rw [if_pos trivial, Ev_bind (SameWheel_refl yat yq (by omega))]
        simp only [Ev_ite]
        rw [if_pos trivial, if_pos trivial, if_pos (by rw [wrap_small (by omega) (by omega)]; omega), Ev_bind awake_true, Ev_some]
      · replace hA : Ev (fun K => tag_Roll.f K words at_ q ((n : Int) + (k : Int))) ((0 : Int), ([] : List Int), (0 : Int), (4 : Int)) := hA
        rw [Ev_bind hA, Ev_bind hB]
        simp only [Ev_ite]
        rw [if_pos trivial, Ev_bind hC]
        simp only [Ev_ite]
        rw [if_pos trivial, Ev_bind (SameWheel_refl 0 [] (by simp))]
        simp only [Ev_ite]
        rw [if_pos trivial, if_neg (by decide), Ev_bind awake_true, Ev_some]
    · have hA := tag_Roll_ev (n := (n : Int) + (k : Int)) hR (by omega) (by omega) (by rw [e0]; exact troll_bad k n at_ q 0 hz)
      have hB := tag_Roll_ev (n := (n : Int)) hR (by omega) (by omega) hz
      rw [Ev_bind hA, Ev_bind hB]
      simp only [Ev_ite]
      rw [if_neg (by decide), if_pos trivial, Ev_bind awake_true, Ev_some]
  · rw [Ev_bind (tag_Roll_no hR), Ev_bind (tag_Roll_no hR)]
    simp only [Ev_ite]
    rw [if_neg (by decide), if_pos trivial, Ev_bind awake_true, Ev_some]
theorem tp_j1 (D : Int) (rules : List (List Int)) (stops : List Bool) (tq : List Int) (words : List (List Int)) (at_ : Int) (q : List Int) (n k : Nat) (hn : n ≤ 255) (hk : k ≤ 255) : Ev (fun K => standstilllaw07_TagParts.j1 K tq (n : Int) (k : Int) D rules stops words at_ q) true := by
  rw [Ev_succ]
  simp only [standstilllaw07_TagParts.j1]
  have hj := tp_j2 words at_ q n k hn hk
  by_cases hQ : okQ D rules stops tq = true
  · obtain ⟨hT, hql, hqx⟩ := okQ_true hQ
    obtain ⟨hD0, hD1, hn0, hn1, hs, hw⟩ := okT_true hT
    have hstep : ∀ z, trun D rules stops 1 tq 0 = some z → Ev (fun k => tag_Step.f k D rules stops tq) (if z.2.2 = 0 then (if z.2.1 = 0 then ([], 5) else (z.1, z.2.2)) else (z.1, z.2.2)) := by
      intro z hz
      unfold tag_Step.f
      rw [Ev_bind (tag_Run_ev (n := 1) hQ (by omega) (by omega) hz)]
      simp only [Ev_ite, Ev_some]
      split
      · split <;> rfl
      · rfl
    have hm : 0 < tq.length → 0 ≤ rd tq 0 ∧ rd tq 0 < (rules.length : Int) := fun h => hqx _ (rd_mem h)
    by_cases h1 : (tq.length : Int) < D
    · have hS : Ev (fun k => tag_Step.f k D rules stops tq) (([] : List Int), (5 : Int)) := hstep (tq, 0, 0) (by simp only [trun]; rw [if_pos h1])
      rw [Ev_bind hS]
      simp only [Ev_ite]
      rw [if_neg (by decide)]
      exact hj _ rfl
    · have hmm := hm (by omega)
      by_cases h2 : rdOf false stops (rd tq 0) = true
      · have hS : Ev (fun k => tag_Step.f k D rules stops tq) (([] : List Int), (5 : Int)) := hstep (tq, 0, 0) (by simp only [trun]; rw [if_neg h1, if_pos (by rw [hs]; exact hmm), if_pos h2])
        rw [Ev_bind hS]
        simp only [Ev_ite]
        rw [if_neg (by decide)]
        exact hj _ rfl
      · obtain ⟨w1, w2⟩ := hw _ (rdL_mem hmm.1 hmm.2)
        by_cases h3 : (((tq ++ rd_L1 rules (rd tq 0)).drop D.toNat).length : Int) > 100000
        · have hS : Ev (fun k => tag_Step.f k D rules stops tq) (([] : List Int), (4 : Int)) := hstep ([], 0, 4) (by simp only [trun]; rw [if_neg h1, if_pos (by rw [hs]; exact hmm), if_neg h2, if_pos ⟨hmm.2, by omega⟩, if_pos h3])
          rw [Ev_bind hS]
          simp only [Ev_ite]
          rw [if_neg (by decide)]
          exact hj _ rfl
        · have hS : Ev (fun k => tag_Step.f k D rules stops tq) ((tq ++ rd_L1 rules (rd tq 0)).drop D.toNat, (0 : Int)) := hstep ((tq ++ rd_L1 rules (rd tq 0)).drop D.toNat, 1, 0) (by simp only [trun]; rw [if_neg h1, if_pos (by rw [hs]; exact hmm), if_neg h2, if_pos ⟨hmm.2, by omega⟩, if_neg h3]; rfl)
          rw [Ev_bind hS]
          simp only [Ev_ite]
          rw [if_pos trivial, Ev_bind (ref_Fits_ev D rules stops tq)]
          simp only [Ev_ite, Ev_none]
          rw [if_pos hQ, if_neg (by omega), if_pos (by omega), if_pos hmm.1, if_pos hmm.2]
          refine hj _ ?_
          have hlen : ((tq ++ rd_L1 rules (rd tq 0)).drop D.toNat).length = tq.length + (rd_L1 rules (rd tq 0)).length - D.toNat := by rw [List.length_drop, List.length_append]
          rw [hlen]
          generalize (rd_L1 rules (rd tq 0)).length = m at *
          rw [wrap_id (x := (tq.length : Int) + (m : Int)) (by omega) (by omega), wrap_id (x := (tq.length : Int) + (m : Int) - D) (by omega) (by omega)]
          simp only [bne_eq_false_iff_eq]
          omega
  · have hstep : Ev (fun k => tag_Step.f k D rules stops tq) ([], 1) := by
      unfold tag_Step.f
      rw [Ev_bind (tag_Run_no hQ)]
      simp only [Ev_ite, Ev_some]
      rw [if_neg (by decide)]
      trivial
    rw [Ev_bind hstep]
    simp only [Ev_ite]
    rw [if_neg (by decide)]
    exact hj _ rfl
theorem TagParts : standstilllaw07_TagParts.Pure := by
  intro D rules stops tq words at_ q a4 a5 h0 h1 h2 h3 h4 h5 h6 h7 h8
  suffices h : Ev (fun k => standstilllaw07_TagParts.f k D rules stops tq words at_ q a4 a5) true by
    obtain ⟨K, h⟩ := h
    exact ⟨K, h K (Nat.le_refl _)⟩
  obtain ⟨n0, n1⟩ := wf_u8 h7
  obtain ⟨k0, k1⟩ := wf_u8 h8
  obtain ⟨n, rfl⟩ := Int.eq_ofNat_of_zero_le n0
  obtain ⟨k, rfl⟩ := Int.eq_ofNat_of_zero_le k0
  have hj : ∀ bb, Ev (fun K => standstilllaw07_TagParts.j0 K tq (n : Int) (k : Int) bb D rules stops words at_ q) true := by
    intro bb
    rw [Ev_succ]
    simp only [standstilllaw07_TagParts.j0, Ev_ite]
    cases bb with
    | true => rw [if_pos rfl, Ev_bind awake_true, Ev_some]
    | false =>
      have hj1 := tp_j1 D rules stops tq words at_ q n k (by omega) (by omega)
      have e0 : ((n : Int) + (k : Int)).toNat = n + k := by omega
      rw [if_neg (by decide), wrap_small (x := (n : Int)) (by omega) (by omega), wrap_small (x := (k : Int)) (by omega) (by omega), wrap_small (x := (n : Int) + (k : Int)) (by omega) (by omega)]
      by_cases hQ : okQ D rules stops tq = true
      · obtain ⟨hT, hq⟩ := okQ_true hQ
        obtain ⟨z, hz, hc⟩ := trun_ok hT n tq 0 hq
        rcases hc with ⟨h4, hrz, hi0, hi1⟩ | rfl
        · obtain ⟨zq, zi, ze⟩ := z
          simp only at h4 hrz hi0 hi1
          subst h4
          obtain ⟨y, hy, hcy⟩ := trun_ok hT k zq 0 hrz
          have hadd := trun_add k n tq 0 zq zi hz
          have hsh := trun_shift (D := D) (rules := rules) (stops := stops) zi k zq 0
          rw [Int.zero_add, hy, ← hadd] at hsh
          have hA := tag_Run_ev (n := (n : Int) + (k : Int)) hQ (by omega) (by omega) (by rw [e0]; exact hsh)
          have hB := tag_Run_ev (n := (n : Int)) hQ (by omega) (by omega) hz
          have hC := tag_Run_ev (n := (k : Int)) (okQ_mk hT hrz) (by omega) (by omega) hy
          rcases hcy with ⟨h5, hry, hj0, hj1'⟩ | rfl
          · obtain ⟨yq, yi, ye⟩ := y
            simp only at h5 hry hj0 hj1'
            subst h5
            replace hA : Ev (fun K => tag_Run.f K D rules stops tq ((n : Int) + (k : Int))) (yq, yi + zi, (0 : Int)) := hA
            have hyq := hry.1
            rw [Ev_bind hA, Ev_bind hB]
            simp only [Ev_ite]
            rw [if_pos trivial, Ev_bind hC]
            simp only [Ev_ite]
            rw [if_pos trivial, Ev_bind (Same_ev yq yq (by omega))]
            simp only [Ev_ite]
            rw [if_pos (by simp), if_pos trivial, if_pos (by rw [wrap_small (by omega) (by omega)]; omega)]
            exact hj1
          · replace hA : Ev (fun K => tag_Run.f K D rules stops tq ((n : Int) + (k : Int))) (([] : List Int), (0 : Int), (4 : Int)) := hA
            rw [Ev_bind hA, Ev_bind hB]
            simp only [Ev_ite]
            rw [if_pos trivial, Ev_bind hC]
            simp only [Ev_ite]
            rw [if_pos trivial, Ev_bind (Same_ev [] [] (by simp))]
            simp only [Ev_ite]
            rw [if_pos (by simp), if_neg (by decide)]
            exact hj1
        · have hA := tag_Run_ev (n := (n : Int) + (k : Int)) hQ (by omega) (by omega) (by rw [e0]; exact trun_bad k n tq 0 hz)
          have hB := tag_Run_ev (n := (n : Int)) hQ (by omega) (by omega) hz
          rw [Ev_bind hA, Ev_bind hB]
          simp only [Ev_ite]
          rw [if_neg (by decide), if_pos trivial]
          exact hj1
      · rw [Ev_bind (tag_Run_no hQ), Ev_bind (tag_Run_no hQ)]
        simp only [Ev_ite]
        rw [if_neg (by decide), if_pos trivial]
        exact hj1
  unfold standstilllaw07_TagParts.f
  obtain ⟨v, hv, _⟩ := wide_ev D rules stops tq
  rw [Ev_bind hv]
  simp only [Ev_ite]
  split
  · exact hj true
  · obtain ⟨v', hv'⟩ := wideC_ev words at_ q
    rw [Ev_bind hv']
    exact hj v'

end Go.Proofs.Ytkinnaegedbanaa.Pure
