/- The plain law of TagTurns: ValidCyclic, FitsCyclic, Turn and Roll answer as the reference does. No condition beyond what every argument has (numbers of their kind, lists within memory). -/
import Derived.Test.YtkinnaegedbanaaAid
import Derived.Test.YtkinnaegedbanaaPTagTurnsx8
namespace Go.Proofs.Ytkinnaegedbanaa.Pure
open Go.RowKit Go.Proofs.Ytkinnaegedbanaa.PTagTurns Go.Proofs.YtkinnaegedbanaaW.PrintWords Go.Proofs.YtkinnaegedbanaaW.PrintLast Go.Proofs.YtkinnaegedbanaaW.PrintMore Go.Proofs.YtkinnaegedbanaaAid
set_option linter.unusedVariables false
set_option linter.unusedSimpArgs false

theorem wrap_nat (i : Nat) (h : i ≤ 4611686018427387904) : wrap64 ((i : Int) + 1) = ((i + 1 : Nat) : Int) := by
  rw [wrap_id (by omega) (by omega)]; omega
theorem getD_lt {α : Type} (l : List α) {i : Nat} (d : α) (h : i < l.length) : l.getD i d = l[i] := by
  simp [List.getD_eq_getElem?_getD, h]
theorem rdL (l : List (List Int)) (i : Nat) (h : i < l.length) : rd_L1 l (i : Int) = l[i] := by
  simp [rd_L1, List.getD_eq_getElem?_getD, h]
/-! Letters of an alphabet. -/
def lok (n x : Int) : Bool := decide (0 ≤ x) && decide (x < n)
theorem tl_loop (n : Int) (l : List Int) (hl : l.length ≤ 1000000000000000) : ∀ (d i : Nat), i + d = l.length → Ev (fun k => tag_letters.l0 k n l (l.length : Int) (i : Int)) ((l.drop i).all (lok n)) := by
  intro d
  induction d with
  | zero =>
    intro i hi
    rw [Ev_succ]
    simp only [tag_letters.l0, Ev_ite, Ev_some, Ev_none]
    rw [if_neg (by omega), List.drop_eq_nil_of_le (by omega)]
    rfl
  | succ d ih =>
    intro i hi
    have hlt : i < l.length := by omega
    have ih := ih (i + 1) (by omega)
    rw [drop_cons l i hlt, List.all_cons, Ev_succ]
    simp only [tag_letters.l0, Ev_ite, Ev_some, Ev_none]
    rw [if_pos (by omega), if_pos (by omega), if_pos (by omega), rd_nat l i hlt, wrap_nat i (by omega)]
    by_cases h0 : l[i] < 0
    · rw [if_pos h0, lok, decide_eq_false (by omega)]; rfl
    · rw [if_neg h0]
      by_cases h1 : l[i] ≥ n
      · rw [if_pos h1, lok, decide_eq_true (by omega), decide_eq_false (by omega)]; rfl
      · rw [if_neg h1, lok, decide_eq_true (by omega), decide_eq_true (by omega)]
        exact ih
theorem tag_letters_ev (n : Int) (l : List Int) (hl : l.length ≤ 1000000000000000) : Ev (fun k => tag_letters.f k l n) (l.all (lok n)) := tl_loop n l hl l.length 0 (by omega)
theorem rl_loop (n : Int) (l : List Int) (hl : l.length ≤ 1000000000000000) : ∀ (d i : Nat), i + d = l.length → Ev (fun k => standstillref07_letters.l0 k l n (i : Int)) ((l.drop i).all (lok n)) := by
  intro d
  induction d with
  | zero =>
    intro i hi
    rw [Ev_succ]
    simp only [standstillref07_letters.l0, Ev_ite, Ev_some, Ev_none]
    rw [if_neg (by omega), List.drop_eq_nil_of_le (by omega)]
    rfl
  | succ d ih =>
    intro i hi
    have hlt : i < l.length := by omega
    have ih := ih (i + 1) (by omega)
    rw [drop_cons l i hlt, List.all_cons, Ev_succ]
    simp only [standstillref07_letters.l0, Ev_ite, Ev_some, Ev_none]
    have hgo : lok n l[i] = true → Ev (fun k => standstillref07_letters.l0 k l n (wrap64 ((i : Int) + 1))) (lok n l[i] && (l.drop (i + 1)).all (lok n)) := by
      intro h
      rw [wrap_nat i (by omega), h, Bool.true_and]
      exact ih
    have hno : lok n l[i] = false → (false = (lok n l[i] && (l.drop (i + 1)).all (lok n))) := by
      intro h
      rw [h, Bool.false_and]
    rw [rd_nat l i hlt]
    generalize l[i] = x at hgo hno ⊢
    simp only [lok, Bool.and_eq_true, decide_eq_true_eq, Bool.and_eq_false_iff, decide_eq_false_iff_not] at hgo hno
    repeat' split
    all_goals first | (exfalso; omega) | (refine hgo ?_; omega) | (refine hno ?_; omega)
theorem ref_letters_ev (n : Int) (l : List Int) (hl : l.length ≤ 1000000000000000) : Ev (fun k => standstillref07_letters.f k l n) (l.all (lok n)) := rl_loop n l hl l.length 0 (by omega)
/-! Equal lists. -/
theorem same_loop (a b : List Int) (hl : a.length = b.length) (hs : a.length ≤ 1000000000000000) : ∀ (d i : Nat), i + d = a.length → Ev (fun k => standstillref07_Same.l0 k a b (i : Int)) (decide (a.drop i = b.drop i)) := by
  intro d
  induction d with
  | zero =>
    intro i hi
    rw [Ev_succ]
    simp only [standstillref07_Same.l0, Ev_ite, Ev_some, Ev_none]
    rw [if_neg (by omega), List.drop_eq_nil_of_le (by omega), List.drop_eq_nil_of_le (by omega)]
    rfl
  | succ d ih =>
    intro i hi
    have ha : i < a.length := by omega
    have hb : i < b.length := by omega
    have ih := ih (i + 1) (by omega)
    rw [drop_cons a i ha, drop_cons b i hb, Ev_succ]
    simp only [standstillref07_Same.l0, Ev_ite, Ev_some, Ev_none]
    rw [if_pos (by omega), if_pos (by omega), if_pos (by omega), rd_nat a i ha, rd_nat b i hb, wrap_nat i (by omega)]
    generalize List.drop (i + 1) a = A at ih ⊢
    generalize List.drop (i + 1) b = B at ih ⊢
    generalize a[i] = x
    generalize b[i] = y
    by_cases h : x = y
    · rw [if_pos h]; simpa [h] using ih
    · rw [if_neg h]; simp [h]
theorem Same_ev (a b : List Int) (hs : a.length ≤ 1000000000000000) : Ev (fun k => standstillref07_Same.f k a b) (decide (a = b)) := by
  unfold standstillref07_Same.f
  simp only [Ev_ite, Ev_some]
  by_cases h : (a.length : Int) = (b.length : Int)
  · rw [if_pos h]
    exact same_loop a b (by omega) hs a.length 0 (by omega)
  · rw [if_neg h, decide_eq_false]
    rintro rfl
    exact h rfl

theorem rd_mem {l : List Int} (h : 0 < l.length) : rd l 0 ∈ l := by
  have : rd l 0 = l[0] := by have := rd_nat l 0 h; simpa using this
  rw [this]; exact List.getElem_mem h
theorem rdL_mem {l : List (List Int)} {x : Int} (h0 : 0 ≤ x) (h1 : x < l.length) : rd_L1 l x ∈ l := by
  have e : rd_L1 l x = l[x.toNat]'(by omega) := by
    have := rdL l x.toNat (by omega)
    rwa [Int.toNat_of_nonneg h0] at this
  rw [e]; exact List.getElem_mem _
theorem qok_drop {n : Nat} {q w : List Int} {d : Nat} (hq : ∀ x ∈ q, 0 ≤ x ∧ x < (n : Int)) (hw : ∀ x ∈ w, 0 ≤ x ∧ x < (n : Int)) : ∀ x ∈ (q ++ w).drop d, 0 ≤ x ∧ x < (n : Int) := by
  intro x hx
  rcases List.mem_append.1 (List.mem_of_mem_drop hx) with h | h
  · exact hq x h
  · exact hw x h
/-! The cyclic ones. -/
def okW (words : List (List Int)) : Bool := decide (1 ≤ words.length ∧ words.length ≤ 2400) && words.all (fun w => decide (w.length ≤ 120000) && w.all (lok 2))
theorem vc_loop (words : List (List Int)) (hn : words.length ≤ 2400) : ∀ (d i : Nat), i + d = words.length → Ev (fun k => tag_ValidCyclic.l0 k words (words.length : Int) (i : Int)) ((words.drop i).all (fun w => decide (w.length ≤ 120000) && w.all (lok 2))) := by
  intro d
  induction d with
  | zero =>
    intro i hi
    rw [Ev_succ]
    simp only [tag_ValidCyclic.l0, Ev_ite, Ev_some, Ev_none]
    rw [if_neg (by omega), List.drop_eq_nil_of_le (by omega)]
    rfl
  | succ d ih =>
    intro i hi
    have hlt : i < words.length := by omega
    have ih := ih (i + 1) (by omega)
    rw [drop_cons words i hlt, List.all_cons, Ev_succ]
    simp only [tag_ValidCyclic.l0, Ev_ite, Ev_some, Ev_none]
    rw [if_pos (by omega), if_pos (by omega), if_pos (by omega), rdL words i hlt, wrap_nat i (by omega)]
    by_cases h0 : ((words[i].length : Int)) > 120000
    · rw [if_pos h0, decide_eq_false (by omega)]; rfl
    · rw [if_neg h0, Ev_bind (tag_letters_ev 2 words[i] (by omega))]
      simp only [Ev_ite, Ev_some]
      rw [decide_eq_true (by omega), Bool.true_and]
      by_cases h1 : words[i].all (lok 2) = true
      · rw [if_pos h1, h1, Bool.true_and]; exact ih
      · rw [if_neg h1, Bool.eq_false_iff.2 h1, Bool.false_and]
theorem tag_ValidCyclic_ev (words : List (List Int)) : Ev (fun k => tag_ValidCyclic.f k words) (okW words) := by
  unfold tag_ValidCyclic.f
  have hj : ∀ b, (b = true → ¬ (1 ≤ words.length ∧ words.length ≤ 2400)) → (b = false → (1 ≤ words.length ∧ words.length ≤ 2400)) → Ev (fun k => tag_ValidCyclic.j0 k b words) (okW words) := by
    intro b h1 h2
    rw [Ev_succ]
    simp only [tag_ValidCyclic.j0, Ev_ite, Ev_some]
    cases b with
    | true => rw [if_pos rfl, okW, decide_eq_false (h1 rfl), Bool.false_and]
    | false =>
      rw [if_neg (by simp), okW, decide_eq_true (h2 rfl), Bool.true_and]
      exact vc_loop words (h2 rfl).2 words.length 0 (by omega)
  simp only [Ev_ite]
  split
  · exact hj _ (fun _ => by omega) (fun h => by cases h)
  · exact hj _ (fun h => by simp at h; omega) (fun h => by simp at h; omega)
theorem okW_true {words : List (List Int)} (h : okW words = true) : 1 ≤ words.length ∧ words.length ≤ 2400 ∧ ∀ w ∈ words, w.length ≤ 120000 ∧ ∀ x ∈ w, 0 ≤ x ∧ x < 2 := by
  simp only [okW, lok, Bool.and_eq_true, decide_eq_true_eq, List.all_eq_true] at h
  exact ⟨h.1.1, h.1.2, h.2⟩
def okR (words : List (List Int)) (at_ : Int) (q : List Int) : Bool := okW words && (decide (0 ≤ at_) && decide (at_ < words.length) && decide (q.length ≤ 1000000) && q.all (lok 2))
theorem tag_FitsCyclic_ev (words : List (List Int)) (at_ : Int) (q : List Int) : Ev (fun k => tag_FitsCyclic.f k words at_ q) (okR words at_ q) := by
  unfold tag_FitsCyclic.f
  rw [Ev_bind (tag_ValidCyclic_ev words)]
  simp only [Ev_ite, Ev_some]
  by_cases hv : okW words = true
  · rw [if_pos hv, okR, hv, Bool.true_and]
    by_cases h1 : at_ ≥ 0
    · rw [if_pos h1, decide_eq_true (by omega : 0 ≤ at_), Bool.true_and]
      by_cases h2 : at_ < words.length
      · rw [if_pos h2, decide_eq_true h2, Bool.true_and]
        by_cases h3 : (q.length : Int) ≤ 1000000
        · rw [if_pos h3, decide_eq_true (by omega), Bool.true_and, Ev_bind (tag_letters_ev 2 q (by omega)), Ev_some]
        · rw [if_neg h3, decide_eq_false (by omega), Bool.false_and]
      · rw [if_neg h2, decide_eq_false h2]; rfl
    · rw [if_neg h1, decide_eq_false (by omega : ¬ 0 ≤ at_)]; rfl
  · rw [if_neg hv, okR, Bool.eq_false_iff.2 hv, Bool.false_and]
def rok (words : List (List Int)) (at_ : Int) (q : List Int) : Prop := 0 ≤ at_ ∧ at_ < words.length ∧ q.length ≤ 1000000 ∧ ∀ x ∈ q, 0 ≤ x ∧ x < 2
theorem okR_true {words : List (List Int)} {at_ : Int} {q : List Int} (h : okR words at_ q = true) : okW words = true ∧ rok words at_ q := by
  simp only [okR, lok, Bool.and_eq_true, decide_eq_true_eq, List.all_eq_true] at h
  exact ⟨h.1, h.2.1.1.1, h.2.1.1.2, h.2.1.2, h.2.2⟩
theorem okR_mk {words : List (List Int)} {at_ : Int} {q : List Int} (hW : okW words = true) (h : rok words at_ q) : okR words at_ q = true := by
  simp only [okR, lok, Bool.and_eq_true, decide_eq_true_eq, List.all_eq_true]
  exact ⟨hW, ⟨⟨h.1, h.2.1⟩, h.2.2.1⟩, h.2.2.2⟩
theorem next_at {at_ : Int} {L : Nat} (h0 : 0 ≤ at_) (h1 : at_ < L) : 0 ≤ Int.tmod (at_ + 1) L ∧ Int.tmod (at_ + 1) L < L := by
  rw [Int.tmod_eq_emod_of_nonneg (by omega)]
  exact ⟨Int.emod_nonneg _ (by omega), Int.emod_lt_of_pos _ (by omega)⟩
theorem troll_ok {words : List (List Int)} (hW : okW words = true) : ∀ (n : Nat) (at_ : Int) (q : List Int) (i : Int), rok words at_ q → ∃ z, troll words n at_ q i = some z ∧ ((z.2.2.2 = 0 ∧ rok words z.1 z.2.1 ∧ i ≤ z.2.2.1 ∧ z.2.2.1 ≤ i + n) ∨ z = (0, [], 0, 4)) := by
  obtain ⟨hn0, hn1, hw⟩ := okW_true hW
  intro n
  induction n with
  | zero => intro at_ q i hq; exact ⟨_, rfl, Or.inl ⟨rfl, hq, by simp, by simp⟩⟩
  | succ n ih =>
    intro at_ q i hq
    obtain ⟨a0, a1, a2, a3⟩ := hq
    simp only [troll]
    by_cases h1 : (q.length : Int) = 0
    · rw [if_pos h1]; exact ⟨_, rfl, Or.inl ⟨rfl, ⟨a0, a1, by simp, by simp⟩, by simp, by simp; omega⟩⟩
    · rw [if_neg h1]
      obtain ⟨w1, w2⟩ := hw _ (rdL_mem a0 a1)
      obtain ⟨b0, b1⟩ := next_at a0 a1
      rw [if_pos ⟨a0, a1, by omega, by omega⟩]
      by_cases h2 : rd q 0 = 1
      · rw [if_pos h2]
        by_cases h3 : (((q ++ rd_L1 words at_).drop 1).length : Int) > 1000000
        · rw [if_pos h3]; exact ⟨_, rfl, Or.inr rfl⟩
        · rw [if_neg h3]
          obtain ⟨z, hz, hc⟩ := ih (Int.tmod (at_ + 1) (words.length : Int)) ((q ++ rd_L1 words at_).drop 1) (i + 1) ⟨b0, b1, by omega, qok_drop (n := 2) a3 w2⟩
          refine ⟨z, hz, ?_⟩
          rcases hc with ⟨a, b, c, d⟩ | h
          · exact Or.inl ⟨a, b, by omega, by push_cast; omega⟩
          · exact Or.inr h
      · rw [if_neg h2]
        by_cases h3 : ((q.drop 1).length : Int) > 1000000
        · rw [if_pos h3]; exact ⟨_, rfl, Or.inr rfl⟩
        · rw [if_neg h3]
          obtain ⟨z, hz, hc⟩ := ih (Int.tmod (at_ + 1) (words.length : Int)) (q.drop 1) (i + 1) ⟨b0, b1, by omega, fun x hx => a3 x (List.mem_of_mem_drop hx)⟩
          refine ⟨z, hz, ?_⟩
          rcases hc with ⟨a, b, c, d⟩ | h
          · exact Or.inl ⟨a, b, by omega, by push_cast; omega⟩
          · exact Or.inr h
theorem troll_add {words : List (List Int)} (k : Nat) : ∀ (n : Nat) (at_ : Int) (q : List Int) (i : Int) (at' : Int) (q' : List Int) (i' : Int), troll words n at_ q i = some (at', q', i', 0) → troll words (n + k) at_ q i = troll words k at' q' i' := by
  intro n
  induction n with
  | zero =>
    intro at_ q i at' q' i' h
    simp only [troll, Option.some.injEq, Prod.mk.injEq] at h
    obtain ⟨rfl, rfl, rfl, _⟩ := h
    rw [Nat.zero_add]
  | succ n ih =>
    intro at_ q i at' q' i' h
    rw [show n + 1 + k = (n + k) + 1 by omega]
    simp only [troll] at h ⊢
    by_cases h1 : (q.length : Int) = 0
    · rw [if_pos h1] at h ⊢
      simp only [Option.some.injEq, Prod.mk.injEq] at h
      obtain ⟨rfl, rfl, rfl, _⟩ := h
      cases k with
      | zero => rfl
      | succ k => simp only [troll]; rw [if_pos (by simp)]
    · rw [if_neg h1] at h ⊢
      split at h
      · rename_i hx
        rw [if_pos hx]
        split at h
        · rename_i h2
          rw [if_pos h2]
          split at h
          · simp at h
          · rename_i h3
            rw [if_neg h3]
            exact ih _ _ _ _ _ _ h
        · rename_i h2
          rw [if_neg h2]
          split at h
          · simp at h
          · rename_i h3
            rw [if_neg h3]
            exact ih _ _ _ _ _ _ h
      · cases h
theorem troll_bad {words : List (List Int)} (k : Nat) : ∀ (n : Nat) (at_ : Int) (q : List Int) (i : Int), troll words n at_ q i = some (0, [], 0, 4) → troll words (n + k) at_ q i = some (0, [], 0, 4) := by
  intro n
  induction n with
  | zero => intro at_ q i h; simp [troll] at h
  | succ n ih =>
    intro at_ q i h
    rw [show n + 1 + k = (n + k) + 1 by omega]
    simp only [troll] at h ⊢
    by_cases h1 : (q.length : Int) = 0
    · rw [if_pos h1] at h; simp at h
    · rw [if_neg h1] at h ⊢
      split at h
      · rename_i hx
        rw [if_pos hx]
        split at h
        · rename_i h2
          rw [if_pos h2]
          split at h
          · rename_i h3; rw [if_pos h3]
          · rename_i h3
            rw [if_neg h3]
            exact ih _ _ _ h
        · rename_i h2
          rw [if_neg h2]
          split at h
          · rename_i h3; rw [if_pos h3]
          · rename_i h3
            rw [if_neg h3]
            exact ih _ _ _ h
      · cases h
def shiftC (c : Int) (z : Int × List Int × Int × Int) : Int × List Int × Int × Int := if z.2.2.2 = 0 then (z.1, z.2.1, z.2.2.1 + c, z.2.2.2) else z
theorem troll_shift {words : List (List Int)} (c : Int) : ∀ (n : Nat) (at_ : Int) (q : List Int) (i : Int), troll words n at_ q (i + c) = (troll words n at_ q i).map (shiftC c) := by
  intro n
  induction n with
  | zero => intro at_ q i; simp [troll, shiftC]
  | succ n ih =>
    intro at_ q i
    simp only [troll]
    repeat' split
    all_goals first | rfl | (simp [shiftC]; done) | (rw [show i + c + 1 = i + 1 + c by omega]; exact ih _ _ _)
theorem tag_Roll_ev {words : List (List Int)} {at_ : Int} {q : List Int} {n : Int} {z : Int × List Int × Int × Int} (hR : okR words at_ q = true) (h0 : 0 ≤ n) (h1 : n ≤ 1000000) (hz : troll words n.toNat at_ q 0 = some z) : Ev (fun k => tag_Roll.f k words at_ q n) z := by
  unfold tag_Roll.f
  rw [Ev_bind (tag_FitsCyclic_ev words at_ q), hR]
  obtain ⟨hW, _, _, hq, _⟩ := okR_true hR
  simp only [if_true, Ev_ite]
  rw [if_neg (by omega), if_neg (by omega), if_pos (by omega), Ev_const]
  exact hz
theorem tag_Roll_no {words : List (List Int)} {at_ : Int} {q : List Int} {n : Int} (hR : ¬ okR words at_ q = true) : Ev (fun k => tag_Roll.f k words at_ q n) (0, [], 0, 1) := by
  unfold tag_Roll.f
  rw [Ev_bind (tag_FitsCyclic_ev words at_ q)]
  simp only [Ev_ite, Ev_some]
  rw [if_neg hR]
  trivial

theorem SameWheel_refl (a : Int) (q : List Int) (hq : q.length ≤ 1000000000000000) : Ev (fun k => standstillref07_SameWheel.f k a q a q) true := by
  unfold standstillref07_SameWheel.f
  simp only [Ev_ite]
  rw [if_pos trivial, Ev_bind (Same_ev q q hq), Ev_some]
  simp
theorem wideC_ev (words : List (List Int)) (at_ : Int) (q : List Int) : ∃ v, Ev (fun k => standstilllaw07_wideCyclic.f k words at_ q) v := by
  have loop : ∀ (d i : Nat) (a : Int), i + d = words.length → i ≤ 3001 → ∃ v, Ev (fun k => standstilllaw07_wideCyclic.l0 k a (i : Int) words) v := by
    intro d
    induction d with
    | zero =>
      intro i a hi h7
      refine ⟨if a > 300000 then true else decide ((words.length : Int) > 3000), ?_⟩
      rw [Ev_succ]
      simp only [standstilllaw07_wideCyclic.l0, Ev_ite, Ev_some, Ev_none]
      rw [if_neg (by omega)]
      split <;> rfl
    | succ d ih =>
      intro i a hi h7
      by_cases h : i ≤ 3000
      · obtain ⟨v, hv⟩ := ih (i + 1) (wrap64 (a + ((rd_L1 words i).length : Int))) (by omega) (by omega)
        refine ⟨v, ?_⟩
        rw [Ev_succ]
        simp only [standstilllaw07_wideCyclic.l0, Ev_ite, Ev_some, Ev_none]
        rw [if_pos (by omega), if_pos (by omega), if_pos (by omega), wrap_nat i (by omega)]
        exact hv
      · refine ⟨true, ?_⟩
        rw [Ev_succ]
        simp only [standstilllaw07_wideCyclic.l0, Ev_ite, Ev_some, Ev_none]
        rw [if_pos (by omega), if_neg (by omega)]
        split
        · trivial
        · exact decide_eq_true (by omega)
  exact loop words.length 0 _ (by omega) (by omega)
theorem wrap_small {x : Int} (h0 : 0 ≤ x) (h1 : x ≤ 1000000) : wrap64 x = x := wrap_id (by omega) (by omega)

theorem rvc_loop (words : List (List Int)) (hn : words.length ≤ 2400) : ∀ (d i : Nat), i + d = words.length → Ev (fun k => standstillref07_ValidCyclic.l0 k (i : Int) words) ((words.drop i).all (fun w => decide (w.length ≤ 120000) && w.all (lok 2))) := by
  intro d
  induction d with
  | zero =>
    intro i hi
    rw [Ev_succ]
    simp only [standstillref07_ValidCyclic.l0, Ev_ite, Ev_some, Ev_none]
    rw [if_neg (by omega), List.drop_eq_nil_of_le (by omega)]
    rfl
  | succ d ih =>
    intro i hi
    have hlt : i < words.length := by omega
    have ih := ih (i + 1) (by omega)
    rw [drop_cons words i hlt, List.all_cons, Ev_succ]
    simp only [standstillref07_ValidCyclic.l0, Ev_ite, Ev_some, Ev_none]
    rw [if_pos (by omega), if_pos (by omega), rdL words i hlt, wrap_nat i (by omega)]
    by_cases h0 : ((words[i].length : Int)) > 120000
    · rw [if_pos h0, decide_eq_false (by omega)]; rfl
    · rw [if_neg h0, Ev_bind (ref_letters_ev 2 words[i] (by omega))]
      simp only [Ev_ite, Ev_some]
      rw [decide_eq_true (by omega), Bool.true_and]
      by_cases h1 : words[i].all (lok 2) = true
      · rw [if_pos h1, h1, Bool.true_and]; exact ih
      · rw [if_neg h1, Bool.eq_false_iff.2 h1, Bool.false_and]
theorem ref_ValidCyclic_ev (words : List (List Int)) : Ev (fun k => standstillref07_ValidCyclic.f k words) (okW words) := by
  unfold standstillref07_ValidCyclic.f
  have hj : ∀ b, (b = true → ¬ (1 ≤ words.length ∧ words.length ≤ 2400)) → (b = false → (1 ≤ words.length ∧ words.length ≤ 2400)) → Ev (fun k => standstillref07_ValidCyclic.j0 k b words) (okW words) := by
    intro b h1 h2
    rw [Ev_succ]
    simp only [standstillref07_ValidCyclic.j0, Ev_ite, Ev_some]
    cases b with
    | true => rw [if_pos rfl, okW, decide_eq_false (h1 rfl), Bool.false_and]
    | false =>
      rw [if_neg (by simp), okW, decide_eq_true (h2 rfl), Bool.true_and]
      exact rvc_loop words (h2 rfl).2 words.length 0 (by omega)
  simp only [Ev_ite]
  split
  · exact hj _ (fun _ => by omega) (fun h => by cases h)
  · exact hj _ (fun h => by simp at h; omega) (fun h => by simp at h; omega)
theorem ref_FitsCyclic_ev (words : List (List Int)) (at_ : Int) (q : List Int) : Ev (fun k => standstillref07_FitsCyclic.f k words at_ q) (okR words at_ q) := by
  unfold standstillref07_FitsCyclic.f
  rw [Ev_bind (ref_ValidCyclic_ev words)]
  simp only [Ev_ite, Ev_some]
  by_cases hv : okW words = true
  · rw [if_pos hv, okR, hv, Bool.true_and]
    by_cases h1 : at_ ≥ 0
    · rw [if_pos h1, decide_eq_true (by omega : 0 ≤ at_), Bool.true_and]
      by_cases h2 : at_ < words.length
      · rw [if_pos h2, decide_eq_true h2, Bool.true_and]
        by_cases h3 : (q.length : Int) ≤ 1000000
        · rw [if_pos h3, decide_eq_true (by omega), Bool.true_and, Ev_bind (ref_letters_ev 2 q (by omega)), Ev_some]
        · rw [if_neg h3, decide_eq_false (by omega), Bool.false_and]
      · rw [if_neg h2, decide_eq_false h2]; rfl
    · rw [if_neg h1, decide_eq_false (by omega : ¬ 0 ≤ at_)]; rfl
  · rw [if_neg hv, okR, Bool.eq_false_iff.2 hv, Bool.false_and]
/-- The queue after a step. -/
def cq (words : List (List Int)) (at_ : Int) (q : List Int) : List Int := if rd q 0 = 1 then q.drop 1 ++ rd_L1 words at_ else q.drop 1
theorem troll_succ {words : List (List Int)} (hW : okW words = true) {at_ : Int} {q : List Int} (hr : rok words at_ q) (n : Nat) (i : Int) : troll words (n + 1) at_ q i = if (q.length : Int) = 0 then some (at_, [], i, 0) else if ((cq words at_ q).length : Int) > 1000000 then some (0, [], 0, 4) else troll words n (Int.tmod (at_ + 1) (words.length : Int)) (cq words at_ q) (i + 1) := by
  obtain ⟨hn0, hn1, hw⟩ := okW_true hW
  obtain ⟨a0, a1, a2, a3⟩ := hr
  obtain ⟨w1, w2⟩ := hw _ (rdL_mem a0 a1)
  simp only [troll]
  by_cases h1 : (q.length : Int) = 0
  · rw [if_pos h1, if_pos h1]
  · rw [if_neg h1, if_neg h1, if_pos ⟨a0, a1, by omega, by omega⟩, cq]
    by_cases h2 : rd q 0 = 1
    · rw [if_pos h2, if_pos h2, List.drop_append_of_le_length (by omega)]
    · rw [if_neg h2, if_neg h2]
theorem ref_Turn_eq {words : List (List Int)} (hW : okW words = true) {at_ : Int} {q : List Int} (hr : rok words at_ q) (hq : ¬ (q.length : Int) = 0) : standstillref07_Turn.f words at_ q = if ((cq words at_ q).length : Int) > 1000000 then some (0, [], false) else some (Int.tmod (at_ + 1) (words.length : Int), cq words at_ q, true) := by
  obtain ⟨hn0, hn1, hw⟩ := okW_true hW
  obtain ⟨a0, a1, a2, a3⟩ := hr
  obtain ⟨w1, w2⟩ := hw _ (rdL_mem a0 a1)
  have hd : (q.drop 1).length = q.length - 1 := List.length_drop
  unfold standstillref07_Turn.f
  simp only [Option.bind_some, List.nil_append, List.length_nil]
  rw [if_neg (by omega), if_pos (by omega), if_pos (by omega), if_pos (by omega), wrap_id (x := at_ + 1) (by omega) (by omega), cq]
  by_cases h2 : rd q 0 = 1
  · rw [if_pos h2, if_pos h2, if_pos a0, if_pos a1, if_pos (by omega)]
  · rw [if_neg h2, if_neg h2]
theorem cq_ok {words : List (List Int)} (hW : okW words = true) {at_ : Int} {q : List Int} (hr : rok words at_ q) (h : ¬ ((cq words at_ q).length : Int) > 1000000) : rok words (Int.tmod (at_ + 1) (words.length : Int)) (cq words at_ q) := by
  obtain ⟨hn0, hn1, hw⟩ := okW_true hW
  obtain ⟨a0, a1, a2, a3⟩ := hr
  obtain ⟨w1, w2⟩ := hw _ (rdL_mem a0 a1)
  obtain ⟨b0, b1⟩ := next_at a0 a1
  refine ⟨b0, b1, by omega, ?_⟩
  intro x hx
  rw [cq] at hx
  split at hx
  · rcases List.mem_append.1 hx with h | h
    · exact a3 x (List.mem_of_mem_drop h)
    · exact w2 x h
  · exact a3 x (List.mem_of_mem_drop hx)
def refR (z : Int × List Int × Int × Int) : Int × List Int × Int × Bool := if z.2.2.2 = 0 then (z.1, z.2.1, z.2.2.1, true) else (0, [], 0, false)
theorem rr_loop {words : List (List Int)} (hW : okW words = true) (n : Nat) (hn : n ≤ 1000000) : ∀ (d i : Nat) (at_ : Int) (q : List Int) (z : Int × List Int × Int × Int), i + d = n → rok words at_ q → troll words d at_ q (i : Int) = some z → Ev (fun k => standstillref07_Roll.l0 k (n : Int) (i : Int) words at_ q) (refR z) := by
  intro d
  induction d with
  | zero =>
    intro i at_ q z hi hr hz
    simp only [troll, Option.some.injEq] at hz
    subst hz
    rw [Ev_succ]
    simp only [standstillref07_Roll.l0, Ev_ite, Ev_some, Ev_none]
    rw [if_neg (by omega), show n = i by omega]
    rfl
  | succ d ih =>
    intro i at_ q z hi hr hz
    rw [troll_succ hW hr] at hz
    rw [Ev_succ]
    simp only [standstillref07_Roll.l0, Ev_ite, Ev_some, Ev_none]
    rw [if_pos (by omega)]
    by_cases h1 : (q.length : Int) = 0
    · rw [if_pos h1] at hz ⊢
      injection hz with hz
      subst hz
      have : q = [] := List.eq_nil_of_length_eq_zero (by omega)
      rw [this]
      rfl
    · rw [if_neg h1] at hz ⊢
      have ht := ref_Turn_eq hW hr h1
      by_cases h2 : ((cq words at_ q).length : Int) > 1000000
      · rw [if_pos h2] at hz ht
        injection hz with hz
        subst hz
        rw [ht]
        simp only [Option.bind_some, Ev_ite, Ev_some]
        rw [if_neg (by decide)]
        rfl
      · rw [if_neg h2] at hz ht
        rw [ht]
        simp only [Option.bind_some, Ev_ite, Ev_some]
        rw [if_pos trivial, wrap_nat i (by omega)]
        exact ih (i + 1) _ _ z (by omega) (cq_ok hW hr h2) hz
theorem ref_Roll_ev {words : List (List Int)} (hW : okW words = true) {at_ : Int} {q : List Int} (hr : rok words at_ q) (n : Nat) (hn : n ≤ 1000000) {z : Int × List Int × Int × Int} (hz : troll words n at_ q 0 = some z) : Ev (fun k => standstillref07_Roll.f k words at_ q (n : Int)) (refR z) := by
  have hq := hr.2.2.1
  unfold standstillref07_Roll.f
  simp only [Option.bind_some, List.nil_append, List.length_nil, Ev_ite, Ev_none]
  rw [if_pos (by omega)]
  exact rr_loop hW n hn n 0 at_ q z (by omega) hr hz
theorem size_eq (b : Bool) : standstilllaw07_size.f b = some (if b = true then 0 else 4) := by
  cases b <;> rfl
theorem awake_true : Ev (fun k => standstilllaw07_awake.f k) true := Ev.of (k := 60) standstilllaw07_awake.mono (by decide +kernel)

theorem roll_bound {words : List (List Int)} (hW : okW words = true) {at_ : Int} {q : List Int} (hr : rok words at_ q) (n : Nat) {z : Int × List Int × Int × Int} (hz : troll words n at_ q 0 = some z) : z.2.1.length ≤ 1000000 ∧ (z.2.2.2 = 0 ∨ z = (0, [], 0, 4)) := by
  obtain ⟨y, hy, hc⟩ := troll_ok hW n at_ q 0 hr
  rw [hz] at hy
  injection hy with hy
  subst hy
  rcases hc with ⟨h1, h2, _⟩ | rfl
  · exact ⟨h2.2.2.1, Or.inl h1⟩
  · exact ⟨by simp, Or.inr rfl⟩
theorem tag_Roll_arg {words : List (List Int)} {at_ : Int} {q : List Int} {n : Int} (hR : okR words at_ q = true) (h : n < 0 ∨ n > 1000000) : Ev (fun k => tag_Roll.f k words at_ q n) (0, [], 0, 2) := by
  unfold tag_Roll.f
  rw [Ev_bind (tag_FitsCyclic_ev words at_ q), hR]
  simp only [if_true, Ev_ite, Ev_some]
  split
  · trivial
  · split
    · trivial
    · exact absurd h (by omega)
theorem tag_Turn_ev {words : List (List Int)} {at_ : Int} {q : List Int} (hR : okR words at_ q = true) : Ev (fun k => tag_Turn.f k words at_ q) (if (q.length : Int) = 0 then (0, [], 5) else if ((cq words at_ q).length : Int) > 1000000 then (0, [], 4) else (Int.tmod (at_ + 1) (words.length : Int), cq words at_ q, 0)) := by
  obtain ⟨hW, hr⟩ := okR_true hR
  unfold tag_Turn.f
  have h1 := troll_succ hW hr 0 0
  by_cases h : (q.length : Int) = 0
  · rw [if_pos h] at h1
    rw [if_pos h, Ev_bind (tag_Roll_ev (n := 1) hR (by omega) (by omega) h1)]
    simp only [Ev_ite, Ev_some]
    rw [if_pos trivial, if_pos trivial]
    trivial
  · rw [if_neg h] at h1
    rw [if_neg h]
    by_cases h2 : ((cq words at_ q).length : Int) > 1000000
    · rw [if_pos h2] at h1
      rw [if_pos h2, Ev_bind (tag_Roll_ev (n := 1) hR (by omega) (by omega) h1)]
      simp only [Ev_ite, Ev_some]
      rw [if_neg (by decide)]
      trivial
    · rw [if_neg h2] at h1
      rw [if_neg h2, Ev_bind (tag_Roll_ev (n := 1) hR (by omega) (by omega) h1)]
      simp only [Ev_ite, Ev_some]
      rw [if_pos trivial, if_neg (by decide)]
      trivial
theorem tt_tail {words : List (List Int)} (hW : okW words = true) {at_ : Int} {q : List Int} (hr : rok words at_ q) (n : Int) (z : Int × List Int × Int × Int) (hz : (n < 0 ∨ n > 1000000) → z = (0, [], 0, 2)) (hz2 : ¬ (n < 0 ∨ n > 1000000) → troll words n.toNat at_ q 0 = some z) : Ev (fun k => standstilllaw07_TagTurns.tail k words at_ q n z) true := by
  unfold standstilllaw07_TagTurns.tail
  simp only [Ev_ite]
  by_cases h : n < 0 ∨ 1000000 < n
  · rw [if_pos h]
    obtain rfl := hz h
    simp only
    rw [if_pos ⟨trivial, trivial⟩, Ev_bind (SameWheel_refl 0 [] (by simp))]
    simp only [Ev_ite]
    rw [if_pos trivial]
    exact awake_true
  · rw [if_neg h]
    have hz := hz2 h
    obtain ⟨m, rfl⟩ := Int.eq_ofNat_of_zero_le (show 0 ≤ n by omega)
    rw [Int.toNat_natCast] at hz
    obtain ⟨hb, hc⟩ := roll_bound hW hr m hz
    rw [Ev_bind (ref_Roll_ev hW hr m (by omega) hz)]
    rcases hc with h | rfl
    · have e : refR z = (z.1, z.2.1, z.2.2.1, true) := by rw [refR, if_pos h]
      rw [e]
      simp only [Ev_ite]
      rw [if_pos ⟨by rw [h, if_pos trivial], trivial⟩, Ev_bind (SameWheel_refl z.1 z.2.1 (by omega))]
      simp only [Ev_ite]
      rw [if_pos trivial]
      exact awake_true
    · have e : refR ((0 : Int), ([] : List Int), (0 : Int), (4 : Int)) = (0, [], 0, false) := rfl
      rw [e]
      simp only [Ev_ite]
      rw [if_pos ⟨by decide, trivial⟩, Ev_bind (SameWheel_refl 0 [] (by simp))]
      simp only [Ev_ite]
      rw [if_pos trivial]
      exact awake_true
theorem TagTurns : standstilllaw07_TagTurns.Pure := by
  intro words at_ q n h0 h1 h2 h3
  suffices h : Ev (fun k => standstilllaw07_TagTurns.f k words at_ q n) true by
    obtain ⟨K, h⟩ := h
    exact ⟨K, h K (Nat.le_refl _)⟩
  unfold standstilllaw07_TagTurns.f
  obtain ⟨v, hv⟩ := wideC_ev words at_ q
  rw [Ev_bind hv]
  simp only [Ev_ite]
  split
  · exact awake_true
  rw [Ev_bind (tag_ValidCyclic_ev words), Ev_bind (ref_ValidCyclic_ev words)]
  simp only [Ev_ite]
  rw [if_pos trivial, Ev_bind (tag_FitsCyclic_ev words at_ q), Ev_bind (ref_FitsCyclic_ev words at_ q)]
  simp only [Ev_ite]
  rw [if_pos trivial]
  cases hR : okR words at_ q with
  | false =>
    have hR' : ¬ okR words at_ q = true := by rw [hR]; decide
    have hT : Ev (fun k => tag_Turn.f k words at_ q) ((0 : Int), ([] : List Int), (1 : Int)) := by
      unfold tag_Turn.f
      rw [Ev_bind (tag_Roll_no hR')]
      simp only [Ev_ite, Ev_some]
      rw [if_neg (by decide)]
      trivial
    rw [Ev_bind hT, Ev_bind (tag_Roll_no hR')]
    unfold standstilllaw07_TagTurns.body
    simp only [Bool.false_eq_true, if_false, Ev_ite]
    rw [if_pos ⟨trivial, trivial, trivial⟩, Ev_bind (SameWheel_refl 0 [] (by simp)), Ev_bind (SameWheel_refl 0 [] (by simp))]
    simp only [Ev_ite]
    rw [if_pos ⟨trivial, trivial⟩]
    exact awake_true
  | true =>
    obtain ⟨hW, hr⟩ := okR_true hR
    have hq := hr.2.2.1
    have key : ∃ z : Int × List Int × Int × Int, Ev (fun k => tag_Roll.f k words at_ q n) z ∧ Ev (fun k => standstilllaw07_TagTurns.tail k words at_ q n z) true := by
      by_cases hn : n < 0 ∨ n > 1000000
      · exact ⟨_, tag_Roll_arg hR hn, tt_tail hW hr n _ (fun _ => rfl) (fun h => absurd hn h)⟩
      · obtain ⟨z, hz, hc⟩ := troll_ok hW n.toNat at_ q 0 hr
        exact ⟨z, tag_Roll_ev hR (by omega) (by omega) hz, tt_tail hW hr n z (fun h => absurd h hn) (fun _ => hz)⟩
    obtain ⟨z, hz, hj⟩ := key
    rw [Ev_bind (tag_Turn_ev hR), Ev_bind hz]
    unfold standstilllaw07_TagTurns.body
    simp only [if_true, Ev_ite]
    by_cases h : (q.length : Int) = 0
    · rw [if_pos h, if_pos h]
      simp only
      rw [if_pos trivial, Ev_bind (SameWheel_refl 0 [] (by simp))]
      simp only [Ev_ite]
      rw [if_pos trivial]
      exact hj
    · rw [if_neg h, if_neg h, ref_Turn_eq hW hr h]
      by_cases h2 : ((cq words at_ q).length : Int) > 1000000
      · rw [if_pos h2, if_pos h2]
        simp only [Option.bind_some, Ev_ite]
        rw [if_pos (by decide), Ev_bind (SameWheel_refl 0 [] (by simp))]
        simp only [Ev_ite]
        rw [if_pos trivial]
        exact hj
      · rw [if_neg h2, if_neg h2]
        simp only [Option.bind_some, Ev_ite]
        rw [if_pos (by decide), Ev_bind (SameWheel_refl _ _ (by omega))]
        simp only [Ev_ite]
        rw [if_pos trivial]
        exact hj

end Go.Proofs.Ytkinnaegedbanaa.Pure
