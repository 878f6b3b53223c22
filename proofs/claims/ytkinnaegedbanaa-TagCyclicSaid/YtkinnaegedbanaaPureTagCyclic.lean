/- The plain law of TagCyclic: n steps of a tag system are n times Delete * r steps of its cyclic tag system on the encoded queue. No condition beyond what every argument has (numbers of their kind, lists within memory). -/
import Derived.Test.YtkinnaegedbanaaAid
import Derived.Test.YtkinnaegedbanaaPTagCyclicx7
namespace Go.Proofs.Ytkinnaegedbanaa.Pure
open Go.RowKit Go.Proofs.Ytkinnaegedbanaa.PTagCyclic Go.Proofs.YtkinnaegedbanaaW.PrintWords Go.Proofs.YtkinnaegedbanaaW.PrintLast Go.Proofs.YtkinnaegedbanaaW.PrintMore Go.Proofs.YtkinnaegedbanaaAid
set_option linter.unusedVariables false
set_option linter.unusedSimpArgs false

theorem wrap_nat (i : Nat) (h : i ≤ 4611686018427387904) : wrap64 ((i : Int) + 1) = ((i + 1 : Nat) : Int) := by
  rw [wrap_id (by omega) (by omega)]; omega
theorem getD_lt {α : Type} (l : List α) {i : Nat} (d : α) (h : i < l.length) : l.getD i d = l[i] := by
  simp [List.getD_eq_getElem?_getD, h]
theorem rdL (l : List (List Int)) (i : Nat) (h : i < l.length) : rd_L1 l (i : Int) = l[i] := by
  simp [rd_L1, List.getD_eq_getElem?_getD, h]
/-! Letters of an alphabet. -/
def lok (n x : Int) : Bool := decide (0 ≤ x) && decide (x < n)
theorem tl_loop (n : Int) (l : List Int) (hl : l.length ≤ 1000000000000000) : ∀ (d i : Nat), i + d = l.length → Ev (fun k => tag_letters.l0 k n l (l.length : Int) (i : Int)) ((l.drop i).all (lok n)) := by
  intro d
  induction d with
  | zero =>
    intro i hi
    rw [Ev_succ]
    simp only [tag_letters.l0, Ev_ite, Ev_some, Ev_none]
    rw [if_neg (by omega), List.drop_eq_nil_of_le (by omega)]
    rfl
  | succ d ih =>
    intro i hi
    have hlt : i < l.length := by omega
    have ih := ih (i + 1) (by omega)
    rw [drop_cons l i hlt, List.all_cons, Ev_succ]
    simp only [tag_letters.l0, Ev_ite, Ev_some, Ev_none]
    rw [if_pos (by omega), if_pos (by omega), if_pos (by omega), rd_nat l i hlt, wrap_nat i (by omega)]
    by_cases h0 : l[i] < 0
    · rw [if_pos h0, lok, decide_eq_false (by omega)]; rfl
    · rw [if_neg h0]
      by_cases h1 : l[i] ≥ n
      · rw [if_pos h1, lok, decide_eq_true (by omega), decide_eq_false (by omega)]; rfl
      · rw [if_neg h1, lok, decide_eq_true (by omega), decide_eq_true (by omega)]
        exact ih
theorem tag_letters_ev (n : Int) (l : List Int) (hl : l.length ≤ 1000000000000000) : Ev (fun k => tag_letters.f k l n) (l.all (lok n)) := tl_loop n l hl l.length 0 (by omega)
theorem rl_loop (n : Int) (l : List Int) (hl : l.length ≤ 1000000000000000) : ∀ (d i : Nat), i + d = l.length → Ev (fun k => standstillref07_letters.l0 k l n (i : Int)) ((l.drop i).all (lok n)) := by
  intro d
  induction d with
  | zero =>
    intro i hi
    rw [Ev_succ]
    simp only [standstillref07_letters.l0, Ev_ite, Ev_some, Ev_none]
    rw [if_neg (by omega), List.drop_eq_nil_of_le (by omega)]
    rfl
  | succ d ih =>
    intro i hi
    have hlt : i < l.length := by omega
    have ih := ih (i + 1) (by omega)
    rw [drop_cons l i hlt, List.all_cons, Ev_succ]
    simp only [standstillref07_letters.l0, Ev_ite, Ev_some, Ev_none]
    have hgo : lok n l[i] = true → Ev (fun k => standstillref07_letters.l0 k l n (wrap64 ((i : Int) + 1))) (lok n l[i] && (l.drop (i + 1)).all (lok n)) := by
      intro h
      rw [wrap_nat i (by omega), h, Bool.true_and]
      exact ih
    have hno : lok n l[i] = false → (false = (lok n l[i] && (l.drop (i + 1)).all (lok n))) := by
      intro h
      rw [h, Bool.false_and]
    rw [rd_nat l i hlt]
    generalize l[i] = x at hgo hno ⊢
    simp only [lok, Bool.and_eq_true, decide_eq_true_eq, Bool.and_eq_false_iff, decide_eq_false_iff_not] at hgo hno
    repeat' split
    all_goals first | (exfalso; omega) | (refine hgo ?_; omega) | (refine hno ?_; omega)
theorem ref_letters_ev (n : Int) (l : List Int) (hl : l.length ≤ 1000000000000000) : Ev (fun k => standstillref07_letters.f k l n) (l.all (lok n)) := rl_loop n l hl l.length 0 (by omega)
/-! Tag systems. -/
def wok (n : Int) (w : List Int) : Bool := decide (w.length ≤ 200) && w.all (lok n)
def okT (D : Int) (rules : List (List Int)) (stops : List Bool) : Bool := decide (1 ≤ D ∧ D ≤ 4 ∧ 1 ≤ rules.length ∧ rules.length ≤ 600 ∧ stops.length = rules.length) && rules.all (wok rules.length)
theorem tv_loop (rules : List (List Int)) (hn : rules.length ≤ 600) : ∀ (d i : Nat), i + d = rules.length → Ev (fun k => tag_Valid.l0 k (rules.length : Int) rules (rules.length : Int) (i : Int)) ((rules.drop i).all (wok rules.length)) := by
  intro d
  induction d with
  | zero =>
    intro i hi
    rw [Ev_succ]
    simp only [tag_Valid.l0, Ev_ite, Ev_some, Ev_none]
    rw [if_neg (by omega), List.drop_eq_nil_of_le (by omega)]
    rfl
  | succ d ih =>
    intro i hi
    have hlt : i < rules.length := by omega
    have ih := ih (i + 1) (by omega)
    rw [drop_cons rules i hlt, List.all_cons, Ev_succ]
    simp only [tag_Valid.l0, Ev_ite, Ev_some, Ev_none]
    rw [if_pos (by omega), if_pos (by omega), if_pos (by omega), rdL rules i hlt, wrap_nat i (by omega)]
    by_cases h0 : ((rules[i].length : Int)) > 200
    · rw [if_pos h0, wok, decide_eq_false (by omega)]; rfl
    · rw [if_neg h0, Ev_bind (tag_letters_ev (rules.length : Int) rules[i] (by omega))]
      simp only [Ev_ite, Ev_some]
      rw [wok, decide_eq_true (by omega), Bool.true_and]
      by_cases h1 : rules[i].all (lok rules.length) = true
      · rw [if_pos h1, h1, Bool.true_and]; exact ih
      · rw [if_neg h1, Bool.eq_false_iff.2 h1, Bool.false_and]
theorem tag_Valid_ev (D : Int) (rules : List (List Int)) (stops : List Bool) : Ev (fun k => tag_Valid.f k D rules stops) (okT D rules stops) := by
  unfold tag_Valid.f
  have hj : ∀ b, (b = true → ¬ (1 ≤ D ∧ D ≤ 4 ∧ 1 ≤ rules.length ∧ rules.length ≤ 600 ∧ stops.length = rules.length)) → (b = false → (1 ≤ D ∧ D ≤ 4 ∧ 1 ≤ rules.length ∧ rules.length ≤ 600 ∧ stops.length = rules.length)) → Ev (fun k => tag_Valid.j0 k (rules.length : Int) b D rules stops) (okT D rules stops) := by
    intro b h1 h2
    rw [Ev_succ]
    simp only [tag_Valid.j0, Ev_ite, Ev_some]
    cases b with
    | true => rw [if_pos rfl, okT, decide_eq_false (h1 rfl), Bool.false_and]
    | false =>
      rw [if_neg (by simp), okT, decide_eq_true (h2 rfl), Bool.true_and]
      exact tv_loop rules (h2 rfl).2.2.2.1 rules.length 0 (by omega)
  simp only [Ev_ite]
  repeat' split
  all_goals refine hj _ (fun h => ?_) (fun h => ?_)
  all_goals first | (cases h; done) | omega | (simp at h; omega)
theorem rv_loop (D : Int) (rules : List (List Int)) (stops : List Bool) (hn : rules.length ≤ 600) : ∀ (d i : Nat), i + d = rules.length → Ev (fun k => standstillref07_Valid.l0 k (rules.length : Int) (i : Int) D rules stops) ((rules.drop i).all (wok rules.length)) := by
  intro d
  induction d with
  | zero =>
    intro i hi
    rw [Ev_succ]
    simp only [standstillref07_Valid.l0, Ev_ite, Ev_some, Ev_none]
    rw [if_neg (by omega), List.drop_eq_nil_of_le (by omega)]
    rfl
  | succ d ih =>
    intro i hi
    have hlt : i < rules.length := by omega
    have ih := ih (i + 1) (by omega)
    rw [drop_cons rules i hlt, List.all_cons, Ev_succ]
    simp only [standstillref07_Valid.l0, Ev_ite, Ev_some, Ev_none]
    rw [if_pos (by omega), if_pos (by omega), if_pos (by omega), rdL rules i hlt, wrap_nat i (by omega)]
    by_cases h0 : ((rules[i].length : Int)) > 200
    · rw [if_pos h0, wok, decide_eq_false (by omega)]; rfl
    · rw [if_neg h0, Ev_bind (ref_letters_ev (rules.length : Int) rules[i] (by omega))]
      simp only [Ev_ite, Ev_some]
      rw [wok, decide_eq_true (by omega), Bool.true_and]
      by_cases h1 : rules[i].all (lok rules.length) = true
      · rw [if_pos h1, h1, Bool.true_and]; exact ih
      · rw [if_neg h1, Bool.eq_false_iff.2 h1, Bool.false_and]
theorem ref_Valid_ev (D : Int) (rules : List (List Int)) (stops : List Bool) : Ev (fun k => standstillref07_Valid.f k D rules stops) (okT D rules stops) := by
  unfold standstillref07_Valid.f
  have hj : ∀ b, (b = true → ¬ (1 ≤ D ∧ D ≤ 4 ∧ 1 ≤ rules.length ∧ rules.length ≤ 600 ∧ stops.length = rules.length)) → (b = false → (1 ≤ D ∧ D ≤ 4 ∧ 1 ≤ rules.length ∧ rules.length ≤ 600 ∧ stops.length = rules.length)) → Ev (fun k => standstillref07_Valid.j0 k (rules.length : Int) b D rules stops) (okT D rules stops) := by
    intro b h1 h2
    rw [Ev_succ]
    simp only [standstillref07_Valid.j0, Ev_ite, Ev_some]
    cases b with
    | true => rw [if_pos rfl, okT, decide_eq_false (h1 rfl), Bool.false_and]
    | false =>
      rw [if_neg (by simp), okT, decide_eq_true (h2 rfl), Bool.true_and]
      exact rv_loop D rules stops (h2 rfl).2.2.2.1 rules.length 0 (by omega)
  simp only [Ev_ite]
  repeat' split
  all_goals refine hj _ (fun h => ?_) (fun h => ?_)
  all_goals first | (cases h; done) | omega | (simp at h; omega)
theorem okT_true {D : Int} {rules : List (List Int)} {stops : List Bool} (h : okT D rules stops = true) : 1 ≤ D ∧ D ≤ 4 ∧ 1 ≤ rules.length ∧ rules.length ≤ 600 ∧ stops.length = rules.length ∧ ∀ w ∈ rules, w.length ≤ 200 ∧ ∀ x ∈ w, 0 ≤ x ∧ x < rules.length := by
  simp only [okT, wok, lok, Bool.and_eq_true, decide_eq_true_eq, List.all_eq_true] at h
  exact ⟨h.1.1, h.1.2.1, h.1.2.2.1, h.1.2.2.2.1, h.1.2.2.2.2, h.2⟩
def okQ (D : Int) (rules : List (List Int)) (stops : List Bool) (q : List Int) : Bool := okT D rules stops && (decide (q.length ≤ 100000) && q.all (lok rules.length))
theorem tag_Fits_ev (D : Int) (rules : List (List Int)) (stops : List Bool) (q : List Int) : Ev (fun k => tag_Fits.f k D rules stops q) (okQ D rules stops q) := by
  unfold tag_Fits.f
  rw [Ev_bind (tag_Valid_ev D rules stops)]
  simp only [Ev_ite, Ev_some]
  by_cases hv : okT D rules stops = true
  · rw [if_pos hv, okQ, hv, Bool.true_and]
    by_cases hl : (q.length : Int) ≤ 100000
    · rw [if_pos hl, Ev_bind (tag_letters_ev _ q (by omega)), Ev_some, decide_eq_true (by omega), Bool.true_and]
    · rw [if_neg hl, decide_eq_false (by omega), Bool.false_and]
  · rw [if_neg hv, okQ, Bool.eq_false_iff.2 hv, Bool.false_and]
theorem ref_Fits_ev (D : Int) (rules : List (List Int)) (stops : List Bool) (q : List Int) : Ev (fun k => standstillref07_Fits.f k D rules stops q) (okQ D rules stops q) := by
  unfold standstillref07_Fits.f
  rw [Ev_bind (ref_Valid_ev D rules stops)]
  simp only [Ev_ite, Ev_some]
  by_cases hv : okT D rules stops = true
  · rw [if_pos hv, okQ, hv, Bool.true_and]
    by_cases hl : (q.length : Int) ≤ 100000
    · rw [if_pos hl, Ev_bind (ref_letters_ev _ q (by omega)), Ev_some, decide_eq_true (by omega), Bool.true_and]
    · rw [if_neg hl, decide_eq_false (by omega), Bool.false_and]
  · rw [if_neg hv, okQ, Bool.eq_false_iff.2 hv, Bool.false_and]
theorem okQ_true {D : Int} {rules : List (List Int)} {stops : List Bool} {q : List Int} (h : okQ D rules stops q = true) : okT D rules stops = true ∧ q.length ≤ 100000 ∧ ∀ x ∈ q, 0 ≤ x ∧ x < rules.length := by
  simp only [okQ, lok, Bool.and_eq_true, decide_eq_true_eq, List.all_eq_true] at h
  exact ⟨h.1, h.2.1, h.2.2⟩
/-! Equal lists. -/
theorem same_loop (a b : List Int) (hl : a.length = b.length) (hs : a.length ≤ 1000000000000000) : ∀ (d i : Nat), i + d = a.length → Ev (fun k => standstillref07_Same.l0 k a b (i : Int)) (decide (a.drop i = b.drop i)) := by
  intro d
  induction d with
  | zero =>
    intro i hi
    rw [Ev_succ]
    simp only [standstillref07_Same.l0, Ev_ite, Ev_some, Ev_none]
    rw [if_neg (by omega), List.drop_eq_nil_of_le (by omega), List.drop_eq_nil_of_le (by omega)]
    rfl
  | succ d ih =>
    intro i hi
    have ha : i < a.length := by omega
    have hb : i < b.length := by omega
    have ih := ih (i + 1) (by omega)
    rw [drop_cons a i ha, drop_cons b i hb, Ev_succ]
    simp only [standstillref07_Same.l0, Ev_ite, Ev_some, Ev_none]
    rw [if_pos (by omega), if_pos (by omega), if_pos (by omega), rd_nat a i ha, rd_nat b i hb, wrap_nat i (by omega)]
    generalize List.drop (i + 1) a = A at ih ⊢
    generalize List.drop (i + 1) b = B at ih ⊢
    generalize a[i] = x
    generalize b[i] = y
    by_cases h : x = y
    · rw [if_pos h]; simpa [h] using ih
    · rw [if_neg h]; simp [h]
theorem Same_ev (a b : List Int) (hs : a.length ≤ 1000000000000000) : Ev (fun k => standstillref07_Same.f k a b) (decide (a = b)) := by
  unfold standstillref07_Same.f
  simp only [Ev_ite, Ev_some]
  by_cases h : (a.length : Int) = (b.length : Int)
  · rw [if_pos h]
    exact same_loop a b (by omega) hs a.length 0 (by omega)
  · rw [if_neg h, decide_eq_false]
    rintro rfl
    exact h rfl

/-! Encoded letters. -/
def bitsGo (n : Int) : List Int → Nat → List Int → List Int
  | [], _, acc => acc
  | x :: xs, i, acc => bitsGo n xs (i + 1) (acc.set ((i : Int) * n + x).toNat 1)
def bitsP (n : Nat) (l : List Int) : List Int := bitsGo n l 0 (List.replicate (l.length * n) 0)
theorem mul_lt_of {i n x L : Int} (hi : i + 1 ≤ L) (h0 : 0 ≤ i) (hx0 : 0 ≤ x) (hx : x < n) : 0 ≤ i * n ∧ i * n + x < L * n := by
  have hn : 0 ≤ n := by omega
  have h1 : (i + 1) * n ≤ L * n := Int.mul_le_mul_of_nonneg_right hi hn
  have h2 : 0 ≤ i * n := Int.mul_nonneg h0 hn
  rw [Int.add_mul, Int.one_mul] at h1
  omega
theorem tb_loop (n : Nat) (l : List Int) (hb : l.length * n ≤ 1000000000000000) (hl : ∀ x ∈ l, 0 ≤ x ∧ x < n) : ∀ (d i : Nat) (acc : List Int), i + d = l.length → acc.length = l.length * n → Ev (fun k => tag_bits.l0 k (n : Int) acc l (l.length : Int) (i : Int)) (bitsGo n (l.drop i) i acc) := by
  intro d
  induction d with
  | zero =>
    intro i acc hi ha
    rw [Ev_succ]
    simp only [tag_bits.l0, Ev_ite, Ev_some, Ev_none]
    rw [if_neg (by omega), List.drop_eq_nil_of_le (by omega)]
    rfl
  | succ d ih =>
    intro i acc hi ha
    have hlt : i < l.length := by omega
    obtain ⟨h0, h1⟩ := hl _ (List.getElem_mem hlt)
    have hll : l.length ≤ 1000000000000000 := by
      have : 0 < n := by omega
      exact Nat.le_trans (Nat.le_mul_of_pos_right _ this) hb
    obtain ⟨m0, m1⟩ := mul_lt_of (i := i) (n := n) (x := l[i]) (L := l.length) (by omega) (by omega) h0 h1
    have hb' : (l.length : Int) * (n : Int) ≤ 1000000000000000 := by rw [← Int.natCast_mul]; exact Int.ofNat_le.2 hb
    have ha' : (acc.length : Int) = (l.length : Int) * (n : Int) := by rw [ha]; exact Int.natCast_mul _ _
    rw [drop_cons l i hlt, bitsGo]
    have ih := ih (i + 1) (acc.set ((i : Int) * n + l[i]).toNat 1) (by omega) (by simpa using ha)
    rw [Ev_succ]
    simp only [tag_bits.l0, Ev_ite, Ev_some, Ev_none]
    rw [rd_nat l i hlt]
    generalize l[i] = x at *
    generalize (i : Int) * (n : Int) = m at *
    generalize (l.length : Int) * (n : Int) = M at *
    rw [wrap_nat i (by omega), wrap_id (x := m) (by omega) (by omega), wrap_id (x := m + x) (by omega) (by omega)]
    rw [if_pos (by omega), if_pos (by omega), if_pos (by omega), if_pos (by omega), if_pos (by omega)]
    exact ih
theorem tag_bits_ev (n : Nat) (l : List Int) (hb : l.length * n ≤ 10000000000000) (hl : ∀ x ∈ l, 0 ≤ x ∧ x < n) : Ev (fun k => tag_bits.f k l (n : Int)) (bitsP n l) := by
  unfold tag_bits.f
  have hb' : (l.length : Int) * (n : Int) = ((l.length * n : Nat) : Int) := by simp
  simp only [Ev_ite, Ev_none]
  rw [hb', wrap_id (by omega) (by omega), if_pos (by omega), if_pos (by omega), Int.toNat_natCast]
  exact tb_loop n l (by omega) hl l.length 0 _ (by omega) (by simp)
/-- One encoded letter. -/
def enc (n : Nat) (x : Int) : List Int := (List.replicate n 0).set x.toNat 1
theorem bitsGo_flat (n : Nat) : ∀ (l : List Int) (i : Nat) (pre : List Int), pre.length = i * n → (∀ x ∈ l, 0 ≤ x ∧ x < n) → bitsGo n l i (pre ++ List.replicate (l.length * n) 0) = pre ++ (l.map (enc n)).flatten := by
  intro l
  induction l with
  | nil => intro i pre hp hl; simp [bitsGo]
  | cons x xs ih =>
    intro i pre hp hl
    obtain ⟨h0, h1⟩ := hl x (by simp)
    rw [bitsGo]
    have e1 : ((i : Int) * (n : Int) + x).toNat = pre.length + x.toNat := by
      have : (i : Int) * (n : Int) = ((i * n : Nat) : Int) := by simp
      rw [this, hp]
      omega
    have e2 : List.replicate ((x :: xs).length * n) (0 : Int) = List.replicate n 0 ++ List.replicate (xs.length * n) 0 := by
      rw [List.replicate_append_replicate, List.length_cons, Nat.add_mul, Nat.one_mul, Nat.add_comm]
    rw [e1, e2, List.set_append_right _ _ (by omega), Nat.add_sub_cancel_left, List.set_append_left _ _ (by simp; omega)]
    have := ih (i + 1) (pre ++ enc n x) (by simp [enc, hp, Nat.add_mul]) (fun y hy => hl y (by simp [hy]))
    simpa [enc] using this
theorem bitsP_flat (n : Nat) (l : List Int) (hl : ∀ x ∈ l, 0 ≤ x ∧ x < n) : bitsP n l = (l.map (enc n)).flatten := by
  have := bitsGo_flat n l 0 [] (by simp) hl
  simpa [bitsP] using this

theorem flat_len (n : Nat) (q : List Int) : ((q.map (enc n)).flatten).length = q.length * n := by
  induction q with
  | nil => simp
  | cons x xs ih => simp [enc, ih, Nat.add_mul, Nat.add_comm]
/-! The cyclic tag system. -/
def wAt (n : Nat) (rules : List (List Int)) (stops : List Bool) (i : Nat) : List Int := if stops.getD i false = true then [] else bitsP n (rules.getD i [])
def wGo (n : Nat) (rules : List (List Int)) (stops : List Bool) : Nat → Nat → List (List Int)
  | 0, _ => []
  | d + 1, i => wAt n rules stops i :: wGo n rules stops d (i + 1)
theorem tc_l1 (m : Nat) (hm : m ≤ 10000) : ∀ (d i : Nat) (acc : List (List Int)), i + d = m → acc.length ≤ 10000 + i → Ev (fun k => tag_ToCyclic.l1 k (m : Int) (i : Int) acc) (acc ++ List.replicate d [], 0) := by
  intro d
  induction d with
  | zero =>
    intro i acc hi ha
    rw [Ev_succ]
    simp only [tag_ToCyclic.l1, Ev_ite, Ev_some, Ev_none]
    rw [if_neg (by omega)]
    simp
  | succ d ih =>
    intro i acc hi ha
    have ih := ih (i + 1) (acc ++ [[]]) (by omega) (by simp; omega)
    rw [Ev_succ]
    simp only [tag_ToCyclic.l1, Ev_ite, Ev_some, Ev_none]
    rw [if_pos (by omega), if_pos (by omega), wrap_nat i (by omega)]
    rw [List.replicate_succ]
    simpa using ih
theorem tc_l0 (D : Int) (rules : List (List Int)) (stops : List Bool) (hv : okT D rules stops = true) : ∀ (d i : Nat) (acc : List (List Int)), i + d = rules.length → acc.length ≤ i → Ev (fun k => tag_ToCyclic.l0 k (rules.length : Int) rules (rules.length : Int) (i : Int) D rules stops acc) (acc ++ wGo rules.length rules stops d i ++ List.replicate ((D - 1).toNat * rules.length) [], 0) := by
  obtain ⟨hD0, hD1, hn0, hn1, hs, hw⟩ := okT_true hv
  intro d
  induction d with
  | zero =>
    intro i acc hi ha
    rw [Ev_succ]
    simp only [tag_ToCyclic.l0, Ev_ite, Ev_some, Ev_none]
    rw [if_neg (by omega)]
    have e1 : wrap64 (D - 1) = ((D - 1).toNat : Int) := by rw [wrap_id (by omega) (by omega)]; omega
    have e3 : (D - 1).toNat * rules.length ≤ 3 * 600 := Nat.mul_le_mul (by omega) (by omega)
    have e2 : wrap64 (((D - 1).toNat : Int) * (rules.length : Int)) = (((D - 1).toNat * rules.length : Nat) : Int) := by
      rw [← Int.natCast_mul, wrap_id (by omega) (by omega)]
    rw [e1, e2, wGo, List.append_nil]
    exact tc_l1 ((D - 1).toNat * rules.length) (by omega) ((D - 1).toNat * rules.length) 0 acc (by omega) (by omega)
  | succ d ih =>
    intro i acc hi ha
    have hlt : i < rules.length := by omega
    have hls : i < stops.length := by omega
    have ih := ih (i + 1) (acc ++ [wAt rules.length rules stops i]) (by omega) (by simp; omega)
    have hst : rdOf false stops (i : Int) = stops.getD i false := rfl
    obtain ⟨hwl, hwx⟩ := hw _ (List.getElem_mem hlt)
    rw [Ev_succ]
    simp only [tag_ToCyclic.l0, Ev_ite, Ev_some, Ev_none]
    rw [if_pos (by omega), if_pos (by omega), if_pos (by omega), if_pos (by omega), rdL rules i hlt, hst, wrap_nat i (by omega)]
    have hwg : wGo rules.length rules stops (d + 1) i = wAt rules.length rules stops i :: wGo rules.length rules stops d (i + 1) := rfl
    have hgo : ∀ v, v = wAt rules.length rules stops i → Ev (fun k => tag_ToCyclic.l0 k (rules.length : Int) rules (rules.length : Int) ((i + 1 : Nat) : Int) D rules stops (acc ++ [v])) (acc ++ wGo rules.length rules stops (d + 1) i ++ List.replicate ((D - 1).toNat * rules.length) [], 0) := by
      rintro v rfl
      rw [hwg]
      simpa using ih
    have hal : acc.length < 5864062014805 := by omega
    by_cases hb : stops.getD i false = true
    · rw [if_pos hb, Ev_bind (tag_bits_ev rules.length [] (by simp) (by simp))]
      simp only [if_pos hal]
      refine hgo _ ?_
      rw [wAt, if_pos hb]
      simp [bitsP, bitsGo]
    · have hmul : rules[i].length * rules.length ≤ 200 * 600 := Nat.mul_le_mul hwl hn1
      rw [if_neg hb, Ev_bind (tag_bits_ev rules.length rules[i] (by omega) hwx)]
      simp only [if_pos hal]
      refine hgo _ ?_
      rw [wAt, if_neg hb, getD_lt rules [] hlt]
def cyc (D : Int) (rules : List (List Int)) (stops : List Bool) : List (List Int) := wGo rules.length rules stops rules.length 0 ++ List.replicate ((D - 1).toNat * rules.length) []
theorem tag_ToCyclic_ev (D : Int) (rules : List (List Int)) (stops : List Bool) : Ev (fun k => tag_ToCyclic.f k D rules stops) (if okT D rules stops = true then (cyc D rules stops, 0) else ([], 1)) := by
  unfold tag_ToCyclic.f
  rw [Ev_bind (tag_Valid_ev D rules stops)]
  simp only [Ev_ite, Ev_some]
  by_cases hv : okT D rules stops = true
  · rw [if_pos hv, if_pos hv]
    have := tc_l0 D rules stops hv rules.length 0 [] (by omega) (by simp)
    simpa [cyc] using this
  · rw [if_neg hv, if_neg hv]
theorem cyc_small (D : Int) (rules : List (List Int)) (stops : List Bool) (hv : okT D rules stops = true) : (cyc D rules stops).length ≤ 10000 ∧ ∀ w ∈ cyc D rules stops, w.length ≤ 1000000 := by
  obtain ⟨hD0, hD1, hn0, hn1, hs, hw⟩ := okT_true hv
  have e3 : (D - 1).toNat * rules.length ≤ 3 * 600 := Nat.mul_le_mul (by omega) (by omega)
  have hA : ∀ i, (wAt rules.length rules stops i).length ≤ 1000000 := by
    intro i
    rw [wAt]
    split
    · simp
    · rcases Nat.lt_or_ge i rules.length with h | h
      · rw [getD_lt rules [] h]
        obtain ⟨hwl, hwx⟩ := hw _ (List.getElem_mem h)
        rw [bitsP_flat _ _ hwx, flat_len]
        have := Nat.mul_le_mul hwl hn1
        omega
      · have : rules.getD i [] = [] := by simp [List.getD_eq_getElem?_getD, h]
        rw [this]; simp [bitsP, bitsGo]
  have hG : ∀ d i, (wGo rules.length rules stops d i).length = d ∧ ∀ w ∈ wGo rules.length rules stops d i, w.length ≤ 1000000 := by
    intro d
    induction d with
    | zero => intro i; simp [wGo]
    | succ d ih =>
      intro i
      obtain ⟨h1, h2⟩ := ih (i + 1)
      refine ⟨by simp [wGo, h1], ?_⟩
      intro w hw
      rcases List.mem_cons.1 hw with h | h
      · rw [h]; exact hA i
      · exact h2 w h
  obtain ⟨h1, h2⟩ := hG rules.length 0
  refine ⟨by rw [cyc, List.length_append, h1, List.length_replicate]; omega, ?_⟩
  intro w hw
  rcases List.mem_append.1 hw with h | h
  · exact h2 w h
  · rw [(List.mem_replicate.1 h).2]; simp
theorem rules_ev (D : Int) (rules : List (List Int)) (stops : List Bool) (hn : rules.length ≤ 600) : ∃ v, Ev (fun k => standstilllaw07_rules.f k D rules stops) v := by
  have loop : ∀ (d i : Nat) (a : Int), i + d = rules.length → ∃ v, Ev (fun k => standstilllaw07_rules.l0 k a (i : Int) D rules stops) v := by
    intro d
    induction d with
    | zero =>
      intro i a hi
      refine ⟨a, ?_⟩
      rw [Ev_succ]
      simp only [standstilllaw07_rules.l0, Ev_ite, Ev_some, Ev_none]
      rw [if_neg (by omega)]
      trivial
    | succ d ih =>
      intro i a hi
      obtain ⟨v, hv⟩ := ih (i + 1) (wrap64 (a + (wrap64 (((rd_L1 rules i).length : Int) * (rules.length : Int))))) (by omega)
      refine ⟨v, ?_⟩
      rw [Ev_succ]
      simp only [standstilllaw07_rules.l0, Ev_ite, Ev_some, Ev_none]
      rw [if_pos (by omega), if_pos (by omega), wrap_nat i (by omega)]
      exact hv
  exact loop rules.length 0 0 (by omega)
theorem wide_ev (D : Int) (rules : List (List Int)) (stops : List Bool) (q : List Int) : ∃ v, Ev (fun k => standstilllaw07_wide.f k D rules stops q) v ∧ (v = false → rules.length ≤ 700) := by
  have loop : ∀ (d i : Nat) (a : Int), i + d = rules.length → i ≤ 701 → ∃ v, Ev (fun k => standstilllaw07_wide.l0 k a (i : Int) D rules stops) v ∧ (v = false → rules.length ≤ 700) := by
    intro d
    induction d with
    | zero =>
      intro i a hi h7
      refine ⟨if a > 20000 then true else decide ((rules.length : Int) > 700), ?_, ?_⟩
      · rw [Ev_succ]
        simp only [standstilllaw07_wide.l0, Ev_ite, Ev_some, Ev_none]
        rw [if_neg (by omega)]
        split <;> rfl
      · split
        · intro h; cases h
        · intro h; have := of_decide_eq_false h; omega
    | succ d ih =>
      intro i a hi h7
      by_cases h : i ≤ 700
      · obtain ⟨v, hv, hv2⟩ := ih (i + 1) (wrap64 (a + ((rd_L1 rules i).length : Int))) (by omega) (by omega)
        refine ⟨v, ?_, hv2⟩
        rw [Ev_succ]
        simp only [standstilllaw07_wide.l0, Ev_ite, Ev_some, Ev_none]
        rw [if_pos (by omega), if_pos (by omega), if_pos (by omega), wrap_nat i (by omega)]
        exact hv
      · refine ⟨true, ?_, fun h => by cases h⟩
        rw [Ev_succ]
        simp only [standstilllaw07_wide.l0, Ev_ite, Ev_some, Ev_none]
        rw [if_pos (by omega), if_neg (by omega)]
        split
        · trivial
        · exact decide_eq_true (by omega)
  exact loop rules.length 0 _ (by omega) (by omega)
theorem awake_true : Ev (fun k => standstilllaw07_awake.f k) true := Ev.of (k := 60) standstilllaw07_awake.mono (by decide +kernel)

/-! Runs. -/
def qok (n : Nat) (q : List Int) : Prop := q.length ≤ 100000 ∧ ∀ x ∈ q, 0 ≤ x ∧ x < n
theorem rd_mem {l : List Int} (h : 0 < l.length) : rd l 0 ∈ l := by
  have : rd l 0 = l[0] := by have := rd_nat l 0 h; simpa using this
  rw [this]; exact List.getElem_mem h
theorem rdL_mem {l : List (List Int)} {x : Int} (h0 : 0 ≤ x) (h1 : x < l.length) : rd_L1 l x ∈ l := by
  have e : rd_L1 l x = l[x.toNat]'(by omega) := by
    have := rdL l x.toNat (by omega)
    rwa [Int.toNat_of_nonneg h0] at this
  rw [e]; exact List.getElem_mem _
theorem qok_drop {n : Nat} {q w : List Int} {d : Nat} (hq : ∀ x ∈ q, 0 ≤ x ∧ x < (n : Int)) (hw : ∀ x ∈ w, 0 ≤ x ∧ x < (n : Int)) : ∀ x ∈ (q ++ w).drop d, 0 ≤ x ∧ x < (n : Int) := by
  intro x hx
  rcases List.mem_append.1 (List.mem_of_mem_drop hx) with h | h
  · exact hq x h
  · exact hw x h
theorem tag_Run_ev {D : Int} {rules : List (List Int)} {stops : List Bool} {q : List Int} {n : Int} {z : List Int × Int × Int} (hQ : okQ D rules stops q = true) (h0 : 0 ≤ n) (h1 : n ≤ 1000000) (hz : trun D rules stops n.toNat q 0 = some z) : Ev (fun k => tag_Run.f k D rules stops q n) z := by
  unfold tag_Run.f
  rw [Ev_bind (tag_Fits_ev D rules stops q), hQ]
  obtain ⟨hT, hq, _⟩ := okQ_true hQ
  obtain ⟨hD0, hD1, _⟩ := okT_true hT
  simp only [if_true, Ev_ite]
  rw [if_neg (by omega), if_neg (by omega), if_pos ⟨by omega, by omega, by omega⟩, Ev_const]
  exact hz
theorem tag_Run_no {D : Int} {rules : List (List Int)} {stops : List Bool} {q : List Int} {n : Int} (hQ : ¬ okQ D rules stops q = true) : Ev (fun k => tag_Run.f k D rules stops q n) ([], 0, 1) := by
  unfold tag_Run.f
  rw [Ev_bind (tag_Fits_ev D rules stops q)]
  simp only [Ev_ite, Ev_some]
  rw [if_neg hQ]
  trivial
theorem okQ_mk {D : Int} {rules : List (List Int)} {stops : List Bool} {q : List Int} (hT : okT D rules stops = true) (hq : qok rules.length q) : okQ D rules stops q = true := by
  simp only [okQ, lok, Bool.and_eq_true, decide_eq_true_eq, List.all_eq_true]
  exact ⟨hT, hq.1, hq.2⟩
/-! The cyclic ones. -/
def okW (words : List (List Int)) : Bool := decide (1 ≤ words.length ∧ words.length ≤ 2400) && words.all (fun w => decide (w.length ≤ 120000) && w.all (lok 2))
theorem vc_loop (words : List (List Int)) (hn : words.length ≤ 2400) : ∀ (d i : Nat), i + d = words.length → Ev (fun k => tag_ValidCyclic.l0 k words (words.length : Int) (i : Int)) ((words.drop i).all (fun w => decide (w.length ≤ 120000) && w.all (lok 2))) := by
  intro d
  induction d with
  | zero =>
    intro i hi
    rw [Ev_succ]
    simp only [tag_ValidCyclic.l0, Ev_ite, Ev_some, Ev_none]
    rw [if_neg (by omega), List.drop_eq_nil_of_le (by omega)]
    rfl
  | succ d ih =>
    intro i hi
    have hlt : i < words.length := by omega
    have ih := ih (i + 1) (by omega)
    rw [drop_cons words i hlt, List.all_cons, Ev_succ]
    simp only [tag_ValidCyclic.l0, Ev_ite, Ev_some, Ev_none]
    rw [if_pos (by omega), if_pos (by omega), if_pos (by omega), rdL words i hlt, wrap_nat i (by omega)]
    by_cases h0 : ((words[i].length : Int)) > 120000
    · rw [if_pos h0, decide_eq_false (by omega)]; rfl
    · rw [if_neg h0, Ev_bind (tag_letters_ev 2 words[i] (by omega))]
      simp only [Ev_ite, Ev_some]
      rw [decide_eq_true (by omega), Bool.true_and]
      by_cases h1 : words[i].all (lok 2) = true
      · rw [if_pos h1, h1, Bool.true_and]; exact ih
      · rw [if_neg h1, Bool.eq_false_iff.2 h1, Bool.false_and]
theorem tag_ValidCyclic_ev (words : List (List Int)) : Ev (fun k => tag_ValidCyclic.f k words) (okW words) := by
  unfold tag_ValidCyclic.f
  have hj : ∀ b, (b = true → ¬ (1 ≤ words.length ∧ words.length ≤ 2400)) → (b = false → (1 ≤ words.length ∧ words.length ≤ 2400)) → Ev (fun k => tag_ValidCyclic.j0 k b words) (okW words) := by
    intro b h1 h2
    rw [Ev_succ]
    simp only [tag_ValidCyclic.j0, Ev_ite, Ev_some]
    cases b with
    | true => rw [if_pos rfl, okW, decide_eq_false (h1 rfl), Bool.false_and]
    | false =>
      rw [if_neg (by simp), okW, decide_eq_true (h2 rfl), Bool.true_and]
      exact vc_loop words (h2 rfl).2 words.length 0 (by omega)
  simp only [Ev_ite]
  split
  · exact hj _ (fun _ => by omega) (fun h => by cases h)
  · exact hj _ (fun h => by simp at h; omega) (fun h => by simp at h; omega)
theorem okW_true {words : List (List Int)} (h : okW words = true) : 1 ≤ words.length ∧ words.length ≤ 2400 ∧ ∀ w ∈ words, w.length ≤ 120000 ∧ ∀ x ∈ w, 0 ≤ x ∧ x < 2 := by
  simp only [okW, lok, Bool.and_eq_true, decide_eq_true_eq, List.all_eq_true] at h
  exact ⟨h.1.1, h.1.2, h.2⟩
def okR (words : List (List Int)) (at_ : Int) (q : List Int) : Bool := okW words && (decide (0 ≤ at_) && decide (at_ < words.length) && decide (q.length ≤ 1000000) && q.all (lok 2))
theorem tag_FitsCyclic_ev (words : List (List Int)) (at_ : Int) (q : List Int) : Ev (fun k => tag_FitsCyclic.f k words at_ q) (okR words at_ q) := by
  unfold tag_FitsCyclic.f
  rw [Ev_bind (tag_ValidCyclic_ev words)]
  simp only [Ev_ite, Ev_some]
  by_cases hv : okW words = true
  · rw [if_pos hv, okR, hv, Bool.true_and]
    by_cases h1 : at_ ≥ 0
    · rw [if_pos h1, decide_eq_true (by omega : 0 ≤ at_), Bool.true_and]
      by_cases h2 : at_ < words.length
      · rw [if_pos h2, decide_eq_true h2, Bool.true_and]
        by_cases h3 : (q.length : Int) ≤ 1000000
        · rw [if_pos h3, decide_eq_true (by omega), Bool.true_and, Ev_bind (tag_letters_ev 2 q (by omega)), Ev_some]
        · rw [if_neg h3, decide_eq_false (by omega), Bool.false_and]
      · rw [if_neg h2, decide_eq_false h2]; rfl
    · rw [if_neg h1, decide_eq_false (by omega : ¬ 0 ≤ at_)]; rfl
  · rw [if_neg hv, okR, Bool.eq_false_iff.2 hv, Bool.false_and]
def rok (words : List (List Int)) (at_ : Int) (q : List Int) : Prop := 0 ≤ at_ ∧ at_ < words.length ∧ q.length ≤ 1000000 ∧ ∀ x ∈ q, 0 ≤ x ∧ x < 2
theorem okR_true {words : List (List Int)} {at_ : Int} {q : List Int} (h : okR words at_ q = true) : okW words = true ∧ rok words at_ q := by
  simp only [okR, lok, Bool.and_eq_true, decide_eq_true_eq, List.all_eq_true] at h
  exact ⟨h.1, h.2.1.1.1, h.2.1.1.2, h.2.1.2, h.2.2⟩
theorem okR_mk {words : List (List Int)} {at_ : Int} {q : List Int} (hW : okW words = true) (h : rok words at_ q) : okR words at_ q = true := by
  simp only [okR, lok, Bool.and_eq_true, decide_eq_true_eq, List.all_eq_true]
  exact ⟨hW, ⟨⟨h.1, h.2.1⟩, h.2.2.1⟩, h.2.2.2⟩
theorem next_at {at_ : Int} {L : Nat} (h0 : 0 ≤ at_) (h1 : at_ < L) : 0 ≤ Int.tmod (at_ + 1) L ∧ Int.tmod (at_ + 1) L < L := by
  rw [Int.tmod_eq_emod_of_nonneg (by omega)]
  exact ⟨Int.emod_nonneg _ (by omega), Int.emod_lt_of_pos _ (by omega)⟩
theorem troll_ok {words : List (List Int)} (hW : okW words = true) : ∀ (n : Nat) (at_ : Int) (q : List Int) (i : Int), rok words at_ q → ∃ z, troll words n at_ q i = some z ∧ ((z.2.2.2 = 0 ∧ rok words z.1 z.2.1 ∧ i ≤ z.2.2.1 ∧ z.2.2.1 ≤ i + n) ∨ z = (0, [], 0, 4)) := by
  obtain ⟨hn0, hn1, hw⟩ := okW_true hW
  intro n
  induction n with
  | zero => intro at_ q i hq; exact ⟨_, rfl, Or.inl ⟨rfl, hq, by simp, by simp⟩⟩
  | succ n ih =>
    intro at_ q i hq
    obtain ⟨a0, a1, a2, a3⟩ := hq
    simp only [troll]
    by_cases h1 : (q.length : Int) = 0
    · rw [if_pos h1]; exact ⟨_, rfl, Or.inl ⟨rfl, ⟨a0, a1, by simp, by simp⟩, by simp, by simp; omega⟩⟩
    · rw [if_neg h1]
      obtain ⟨w1, w2⟩ := hw _ (rdL_mem a0 a1)
      obtain ⟨b0, b1⟩ := next_at a0 a1
      rw [if_pos ⟨a0, a1, by omega, by omega⟩]
      by_cases h2 : rd q 0 = 1
      · rw [if_pos h2]
        by_cases h3 : (((q ++ rd_L1 words at_).drop 1).length : Int) > 1000000
        · rw [if_pos h3]; exact ⟨_, rfl, Or.inr rfl⟩
        · rw [if_neg h3]
          obtain ⟨z, hz, hc⟩ := ih (Int.tmod (at_ + 1) (words.length : Int)) ((q ++ rd_L1 words at_).drop 1) (i + 1) ⟨b0, b1, by omega, qok_drop (n := 2) a3 w2⟩
          refine ⟨z, hz, ?_⟩
          rcases hc with ⟨a, b, c, d⟩ | h
          · exact Or.inl ⟨a, b, by omega, by push_cast; omega⟩
          · exact Or.inr h
      · rw [if_neg h2]
        by_cases h3 : ((q.drop 1).length : Int) > 1000000
        · rw [if_pos h3]; exact ⟨_, rfl, Or.inr rfl⟩
        · rw [if_neg h3]
          obtain ⟨z, hz, hc⟩ := ih (Int.tmod (at_ + 1) (words.length : Int)) (q.drop 1) (i + 1) ⟨b0, b1, by omega, fun x hx => a3 x (List.mem_of_mem_drop hx)⟩
          refine ⟨z, hz, ?_⟩
          rcases hc with ⟨a, b, c, d⟩ | h
          · exact Or.inl ⟨a, b, by omega, by push_cast; omega⟩
          · exact Or.inr h
theorem troll_add {words : List (List Int)} (k : Nat) : ∀ (n : Nat) (at_ : Int) (q : List Int) (i : Int) (at' : Int) (q' : List Int) (i' : Int), troll words n at_ q i = some (at', q', i', 0) → troll words (n + k) at_ q i = troll words k at' q' i' := by
  intro n
  induction n with
  | zero =>
    intro at_ q i at' q' i' h
    simp only [troll, Option.some.injEq, Prod.mk.injEq] at h
    obtain ⟨rfl, rfl, rfl, _⟩ := h
    rw [Nat.zero_add]
  | succ n ih =>
    intro at_ q i at' q' i' h
    rw [show n + 1 + k = (n + k) + 1 by omega]
    simp only [troll] at h ⊢
    by_cases h1 : (q.length : Int) = 0
    · rw [if_pos h1] at h ⊢
      simp only [Option.some.injEq, Prod.mk.injEq] at h
      obtain ⟨rfl, rfl, rfl, _⟩ := h
      cases k with
      | zero => rfl
      | succ k => simp only [troll]; rw [if_pos (by simp)]
    · rw [if_neg h1] at h ⊢
      split at h
      · rename_i hx
        rw [if_pos hx]
        split at h
        · rename_i h2
          rw [if_pos h2]
          split at h
          · simp at h
          · rename_i h3
            rw [if_neg h3]
            exact ih _ _ _ _ _ _ h
        · rename_i h2
          rw [if_neg h2]
          split at h
          · simp at h
          · rename_i h3
            rw [if_neg h3]
            exact ih _ _ _ _ _ _ h
      · cases h
theorem troll_bad {words : List (List Int)} (k : Nat) : ∀ (n : Nat) (at_ : Int) (q : List Int) (i : Int), troll words n at_ q i = some (0, [], 0, 4) → troll words (n + k) at_ q i = some (0, [], 0, 4) := by
  intro n
  induction n with
  | zero => intro at_ q i h; simp [troll] at h
  | succ n ih =>
    intro at_ q i h
    rw [show n + 1 + k = (n + k) + 1 by omega]
    simp only [troll] at h ⊢
    by_cases h1 : (q.length : Int) = 0
    · rw [if_pos h1] at h; simp at h
    · rw [if_neg h1] at h ⊢
      split at h
      · rename_i hx
        rw [if_pos hx]
        split at h
        · rename_i h2
          rw [if_pos h2]
          split at h
          · rename_i h3; rw [if_pos h3]
          · rename_i h3
            rw [if_neg h3]
            exact ih _ _ _ h
        · rename_i h2
          rw [if_neg h2]
          split at h
          · rename_i h3; rw [if_pos h3]
          · rename_i h3
            rw [if_neg h3]
            exact ih _ _ _ h
      · cases h
def shiftC (c : Int) (z : Int × List Int × Int × Int) : Int × List Int × Int × Int := if z.2.2.2 = 0 then (z.1, z.2.1, z.2.2.1 + c, z.2.2.2) else z
theorem troll_shift {words : List (List Int)} (c : Int) : ∀ (n : Nat) (at_ : Int) (q : List Int) (i : Int), troll words n at_ q (i + c) = (troll words n at_ q i).map (shiftC c) := by
  intro n
  induction n with
  | zero => intro at_ q i; simp [troll, shiftC]
  | succ n ih =>
    intro at_ q i
    simp only [troll]
    repeat' split
    all_goals first | rfl | (simp [shiftC]; done) | (rw [show i + c + 1 = i + 1 + c by omega]; exact ih _ _ _)
theorem tag_Roll_ev {words : List (List Int)} {at_ : Int} {q : List Int} {n : Int} {z : Int × List Int × Int × Int} (hR : okR words at_ q = true) (h0 : 0 ≤ n) (h1 : n ≤ 1000000) (hz : troll words n.toNat at_ q 0 = some z) : Ev (fun k => tag_Roll.f k words at_ q n) z := by
  unfold tag_Roll.f
  rw [Ev_bind (tag_FitsCyclic_ev words at_ q), hR]
  obtain ⟨hW, _, _, hq, _⟩ := okR_true hR
  simp only [if_true, Ev_ite]
  rw [if_neg (by omega), if_neg (by omega), if_pos (by omega), Ev_const]
  exact hz
theorem tag_Roll_no {words : List (List Int)} {at_ : Int} {q : List Int} {n : Int} (hR : ¬ okR words at_ q = true) : Ev (fun k => tag_Roll.f k words at_ q n) (0, [], 0, 1) := by
  unfold tag_Roll.f
  rw [Ev_bind (tag_FitsCyclic_ev words at_ q)]
  simp only [Ev_ite, Ev_some]
  rw [if_neg hR]
  trivial

theorem wide_bits {n l : Nat} (hn : n ≤ 600) (hl : l ≤ 17592186044404) : wrap64 ((l : Int) * (n : Int)) = ((l * n : Nat) : Int) := by
  have h : l * n ≤ 17592186044404 * 600 := Nat.mul_le_mul hl hn
  rw [← Int.natCast_mul, wrap_id (by omega) (by omega)]
def bitsOut (D : Int) (rules : List (List Int)) (stops : List Bool) (q : List Int) : List Int × Int := if okQ D rules stops q = true then (if ((q.length * rules.length : Nat) : Int) > 1000000 then ([], 4) else (bitsP rules.length q, 0)) else ([], 1)
theorem tag_Bits_ev (D : Int) (rules : List (List Int)) (stops : List Bool) (q : List Int) : Ev (fun k => tag_Bits.f k D rules stops q) (bitsOut D rules stops q) := by
  unfold tag_Bits.f bitsOut
  rw [Ev_bind (tag_Fits_ev D rules stops q)]
  simp only [Ev_ite, Ev_some]
  by_cases hv : okQ D rules stops q = true
  · obtain ⟨hT, hq, hx⟩ := okQ_true hv
    obtain ⟨_, _, _, hn1, _⟩ := okT_true hT
    rw [if_pos hv, if_pos hv, wide_bits hn1 (by omega)]
    by_cases hb : ((q.length * rules.length : Nat) : Int) > 1000000
    · rw [if_pos hb, if_pos hb]
    · rw [if_neg hb, if_neg hb]
      have hbn : q.length * rules.length ≤ 1000000 := by omega
      rw [Ev_bind (tag_bits_ev rules.length q (Nat.le_trans hbn (by omega)) hx), Ev_some]
  · rw [if_neg hv, if_neg hv]

/-! The simulation. -/
def wsum (words : List (List Int)) : Int → List Int → List Int
  | _, [] => []
  | a, y :: ys => (if y = 1 then rd_L1 words a else []) ++ wsum words (a + 1) ys
theorem rd_cons (y : Int) (l : List Int) : rd (y :: l) 0 = y := by simp [rd]
theorem troll_pre {words : List (List Int)} (hW : okW words = true) (r : Nat) : ∀ (ys rest : List Int) (a i : Int), 0 ≤ a → a < words.length → a + ys.length ≤ words.length → ((ys ++ rest).length + (wsum words a ys).length : Nat) ≤ 1000000 →
    troll words (ys.length + r) a (ys ++ rest) i = troll words r (if a + ys.length = (words.length : Int) then 0 else a + ys.length) (rest ++ wsum words a ys) (i + ys.length) := by
  obtain ⟨hn0, hn1, hw⟩ := okW_true hW
  intro ys
  induction ys with
  | nil =>
    intro rest a i h0 h1 h2 h3
    rw [if_neg (by simp; omega)]
    simp [wsum]
  | cons y ys ih =>
    intro rest a i h0 h1 h2 h3
    obtain ⟨w1, w2⟩ := hw _ (rdL_mem h0 h1)
    rw [List.length_cons] at h2
    rw [wsum, List.length_append, List.length_cons] at h3
    rw [List.length_cons, show ys.length + 1 + r = (ys.length + r) + 1 by omega, List.cons_append]
    simp only [troll, rd_cons]
    rw [if_neg (by simp only [List.length_cons]; omega), if_pos ⟨h0, h1, by omega, by omega⟩]
    have key : ∀ v : List Int, v = (if y = 1 then rd_L1 words a else []) → troll words (ys.length + r) (Int.tmod (a + 1) (words.length : Int)) (ys ++ (rest ++ v)) (i + 1) = troll words r (if a + ((ys.length + 1 : Nat) : Int) = (words.length : Int) then 0 else a + ((ys.length + 1 : Nat) : Int)) (rest ++ wsum words a (y :: ys)) (i + ((ys.length + 1 : Nat) : Int)) := by
      rintro v hv
      rw [wsum, ← hv]
      rw [← hv] at h3
      by_cases he : a + 1 = (words.length : Int)
      · have : ys = [] := List.eq_nil_of_length_eq_zero (by omega)
        subst this
        rw [he, Int.tmod_self, if_pos (by simp; omega)]
        simp [wsum]
      · have hm : Int.tmod (a + 1) (words.length : Int) = a + 1 := by
          rw [Int.tmod_eq_emod_of_nonneg (by omega), Int.emod_eq_of_lt (by omega) (by omega)]
        rw [hm]
        have := ih (rest ++ v) (a + 1) (i + 1) (by omega) (by omega) (by omega) (by simp only [List.length_append] at h3 ⊢; omega)
        rw [this, List.append_assoc]
        have e1 : a + 1 + (ys.length : Int) = a + ((ys.length + 1 : Nat) : Int) := by omega
        have e2 : i + 1 + (ys.length : Int) = i + ((ys.length + 1 : Nat) : Int) := by omega
        rw [e1, e2]
    by_cases hy : y = 1
    · have hlen : ((y :: (ys ++ rest) ++ rd_L1 words a).drop 1).length ≤ 1000000 := by
        rw [if_pos hy] at h3
        simp only [List.cons_append, List.drop_succ_cons, List.drop_zero, List.length_append] at h3 ⊢
        omega
      rw [if_pos hy, if_neg (by omega)]
      have := key (rd_L1 words a) (by rw [if_pos hy])
      simpa using this
    · have hlen : ((y :: (ys ++ rest)).drop 1).length ≤ 1000000 := by
        simp only [List.drop_succ_cons, List.drop_zero, List.length_append] at h3 ⊢
        omega
      rw [if_neg hy, if_neg (by omega)]
      have := key [] (by rw [if_neg hy])
      simpa using this
theorem wsum_append (words : List (List Int)) : ∀ (u v : List Int) (a : Int), wsum words a (u ++ v) = wsum words a u ++ wsum words (a + u.length) v := by
  intro u
  induction u with
  | nil => intro v a; simp [wsum]
  | cons y u ih =>
    intro v a
    rw [List.cons_append, wsum, wsum, ih v (a + 1), List.append_assoc, List.length_cons]
    congr 3
    omega
theorem wsum_zeros (words : List (List Int)) : ∀ (m : Nat) (a : Int), wsum words a (List.replicate m 0) = [] := by
  intro m
  induction m with
  | zero => intro a; rfl
  | succ m ih => intro a; rw [List.replicate_succ, wsum, if_neg (by decide), ih]; rfl
theorem wsum_nil (words : List (List Int)) (b : Int) (h : ∀ j, b ≤ j → rd_L1 words j = []) : ∀ (ys : List Int) (a : Int), b ≤ a → wsum words a ys = [] := by
  intro ys
  induction ys with
  | nil => intro a ha; rfl
  | cons y ys ih =>
    intro a ha
    rw [wsum, ih (a + 1) (by omega), h a ha]
    simp
theorem enc_form (n x : Nat) (hx : x < n) : enc n (x : Int) = List.replicate x 0 ++ 1 :: List.replicate (n - x - 1) 0 := by
  have : n = x + ((n - x - 1) + 1) := by omega
  rw [enc]
  conv => lhs; rw [this]
  rw [← List.replicate_append_replicate, List.set_append_right _ _ (by simp)]
  simp [List.replicate_succ]
theorem wsum_enc (words : List (List Int)) (n : Nat) (x : Int) (h0 : 0 ≤ x) (h1 : x < n) : wsum words 0 (enc n x) = rd_L1 words x := by
  obtain ⟨m, rfl⟩ := Int.eq_ofNat_of_zero_le h0
  rw [enc_form n m (by omega), wsum_append, wsum_zeros, wsum, if_pos rfl, wsum_zeros]
  simp

theorem wGo_get (n : Nat) (rules : List (List Int)) (stops : List Bool) : ∀ (d i j : Nat), (wGo n rules stops d i)[j]? = if j < d then some (wAt n rules stops (i + j)) else none := by
  intro d
  induction d with
  | zero => intro i j; simp [wGo]
  | succ d ih =>
    intro i j
    cases j with
    | zero => simp [wGo]
    | succ j =>
      rw [wGo, List.getElem?_cons_succ, ih (i + 1) j]
      by_cases h : j < d
      · rw [if_pos h, if_pos (by omega)]; congr 2; omega
      · rw [if_neg h, if_neg (by omega)]
theorem wGo_len (n : Nat) (rules : List (List Int)) (stops : List Bool) (d i : Nat) : (wGo n rules stops d i).length = d := by
  induction d generalizing i with
  | zero => rfl
  | succ d ih => rw [wGo, List.length_cons, ih]
theorem cyc_len {D : Int} {rules : List (List Int)} {stops : List Bool} (hT : okT D rules stops = true) : (cyc D rules stops).length = D.toNat * rules.length := by
  obtain ⟨hD0, hD1, hn0, hn1, hs, hw⟩ := okT_true hT
  have : D.toNat = (D - 1).toNat + 1 := by omega
  rw [cyc, List.length_append, wGo_len, List.length_replicate, this, Nat.add_mul, Nat.one_mul]
  omega
theorem cyc_lo {D : Int} {rules : List (List Int)} {stops : List Bool} {x : Int} (h0 : 0 ≤ x) (h1 : x < rules.length) : rd_L1 (cyc D rules stops) x = wAt rules.length rules stops x.toNat := by
  have hx : x.toNat < rules.length := by omega
  rw [rd_L1, List.getD_eq_getElem?_getD, cyc, List.getElem?_append_left (by rw [wGo_len]; exact hx), wGo_get, if_pos hx]
  simp
theorem cyc_hi {D : Int} {rules : List (List Int)} {stops : List Bool} {x : Int} (h1 : (rules.length : Int) ≤ x) : rd_L1 (cyc D rules stops) x = [] := by
  have hx : rules.length ≤ x.toNat := by omega
  rw [rd_L1, List.getD_eq_getElem?_getD, cyc, List.getElem?_append_right (by rw [wGo_len]; exact hx), List.getElem?_replicate]
  split <;> rfl
theorem enc_mem {n : Nat} {x y : Int} (h : y ∈ enc n x) : 0 ≤ y ∧ y < 2 := by
  rw [enc] at h
  rcases List.mem_or_eq_of_mem_set h with h | h
  · rw [(List.mem_replicate.1 h).2]; omega
  · omega
theorem flat_mem {n : Nat} {l : List Int} {y : Int} (h : y ∈ (l.map (enc n)).flatten) : 0 ≤ y ∧ y < 2 := by
  obtain ⟨w, hw, hy⟩ := List.mem_flatten.1 h
  obtain ⟨x, _, rfl⟩ := List.mem_map.1 hw
  exact enc_mem hy
theorem okW_cyc {D : Int} {rules : List (List Int)} {stops : List Bool} (hT : okT D rules stops = true) : okW (cyc D rules stops) = true := by
  obtain ⟨hD0, hD1, hn0, hn1, hs, hw⟩ := okT_true hT
  have e3 : D.toNat * rules.length ≤ 4 * 600 := Nat.mul_le_mul (by omega) (by omega)
  have e4 : 1 * 1 ≤ D.toNat * rules.length := Nat.mul_le_mul (by omega) hn0
  have hl := cyc_len hT
  have hA : ∀ i, (wAt rules.length rules stops i).length ≤ 120000 ∧ ∀ x ∈ wAt rules.length rules stops i, 0 ≤ x ∧ x < 2 := by
    intro i
    rw [wAt]
    split
    · simp
    · rcases Nat.lt_or_ge i rules.length with h | h
      · rw [getD_lt rules [] h]
        obtain ⟨hwl, hwx⟩ := hw _ (List.getElem_mem h)
        rw [bitsP_flat _ _ hwx]
        refine ⟨?_, fun x hx => flat_mem hx⟩
        rw [flat_len]
        have := Nat.mul_le_mul hwl hn1
        omega
      · have : rules.getD i [] = [] := by simp [List.getD_eq_getElem?_getD, h]
        rw [this]; simp [bitsP, bitsGo]
  simp only [okW, lok, Bool.and_eq_true, decide_eq_true_eq, List.all_eq_true]
  refine ⟨⟨by omega, by omega⟩, ?_⟩
  intro w hw
  obtain ⟨j, hj⟩ := List.mem_iff_getElem?.1 hw
  have hw' : w = rd_L1 (cyc D rules stops) (j : Int) := by simp [rd_L1, List.getD_eq_getElem?_getD, hj]
  rcases Nat.lt_or_ge j rules.length with h | h
  · rw [hw', cyc_lo (by omega) (by omega)]; exact hA _
  · rw [hw', cyc_hi (by omega)]; simp
def flat (rules : List (List Int)) (q : List Int) : List Int := (q.map (enc rules.length)).flatten
theorem sim_step {D : Int} {rules : List (List Int)} {stops : List Bool} (hT : okT D rules stops = true) {q : List Int} (hq : ∀ x ∈ q, 0 ≤ x ∧ x < (rules.length : Int)) (hl : D ≤ q.length) (hq2 : q.length ≤ 3000) (hR : rules.length ≤ 40) (hns : ¬ rdOf false stops (rd q 0) = true) (r : Nat) (i : Int) :
    troll (cyc D rules stops) (D.toNat * rules.length + r) 0 (flat rules q) i = troll (cyc D rules stops) r 0 (flat rules ((q ++ rd_L1 rules (rd q 0)).drop D.toNat)) (i + ((D.toNat * rules.length : Nat) : Int)) := by
  obtain ⟨hD0, hD1, hn0, hn1, hs, hw⟩ := okT_true hT
  have hlen := cyc_len hT
  have hDl : D.toNat ≤ q.length := by omega
  have e4 : 1 * 1 ≤ D.toNat * rules.length := Nat.mul_le_mul (by omega) hn0
  have htd : (q.take D.toNat).length = D.toNat := by rw [List.length_take]; omega
  have hsplit : flat rules q = flat rules (q.take D.toNat) ++ flat rules (q.drop D.toNat) := by
    rw [flat, flat, flat, ← List.flatten_append, ← List.map_append, List.take_append_drop]
  have hyl : (flat rules (q.take D.toNat)).length = D.toNat * rules.length := by rw [flat, flat_len, htd]
  have hm := hq _ (rd_mem (l := q) (by omega))
  obtain ⟨wl, wx⟩ := hw _ (rdL_mem hm.1 hm.2)
  -- what is appended
  have hsum : wsum (cyc D rules stops) 0 (flat rules (q.take D.toNat)) = flat rules (rd_L1 rules (rd q 0)) := by
    obtain ⟨x, t, hxt⟩ : ∃ x t, q.take D.toNat = x :: t := by
      cases h : q.take D.toNat with
      | nil => rw [h] at htd; simp at htd; omega
      | cons x t => exact ⟨x, t, rfl⟩
    have hx : rd q 0 = x := by
      have : q = x :: (t ++ q.drop D.toNat) := by rw [← List.cons_append, ← hxt, List.take_append_drop]
      rw [this, rd_cons]
    rw [hx] at hm wx hns ⊢
    rw [hxt, flat, List.map_cons, List.flatten_cons, wsum_append, wsum_enc _ _ _ hm.1 hm.2, wsum_nil _ rules.length (fun j hj => cyc_hi hj) _ _ (by simp [enc]), List.append_nil, cyc_lo hm.1 hm.2, wAt, if_neg (show ¬ stops.getD x.toNat false = true from hns), flat, ← bitsP_flat _ _ wx]
    rfl
  have h3 : (flat rules (rd_L1 rules (rd q 0))).length ≤ 200 * 40 := by rw [flat, flat_len]; exact Nat.mul_le_mul wl hR
  have h4 : (flat rules q).length ≤ 3000 * 40 := by rw [flat, flat_len]; exact Nat.mul_le_mul hq2 hR
  have hpre := troll_pre (okW_cyc hT) r (flat rules (q.take D.toNat)) (flat rules (q.drop D.toNat)) 0 i (by omega) (by omega) (by omega) (by rw [← hsplit, hsum]; omega)
  rw [← hsplit, hsum, hyl] at hpre
  rw [hpre, if_pos (by omega), List.drop_append_of_le_length hDl]
  congr 1
  rw [flat, flat, flat, ← List.flatten_append, ← List.map_append]
theorem sim {D : Int} {rules : List (List Int)} {stops : List Bool} (hT : okT D rules stops = true) (hR : rules.length ≤ 40) : ∀ (n : Nat) (q : List Int) (i : Int), (∀ x ∈ q, 0 ≤ x ∧ x < (rules.length : Int)) → q.length + 200 * n ≤ 3000 →
    ∃ (q' : List Int) (m : Nat), trun D rules stops n q i = some (q', i + m, 0) ∧ m ≤ n ∧ (∀ x ∈ q', 0 ≤ x ∧ x < (rules.length : Int)) ∧ q'.length ≤ 3000 ∧ (m = n ∨ (q'.length : Int) < D ∨ rdOf false stops (rd q' 0) = true) ∧
      ∀ (r : Nat) (j : Int), troll (cyc D rules stops) (m * (D.toNat * rules.length) + r) 0 (flat rules q) j = troll (cyc D rules stops) r 0 (flat rules q') (j + ((m * (D.toNat * rules.length) : Nat) : Int)) := by
  obtain ⟨hD0, hD1, hn0, hn1, hs, hw⟩ := okT_true hT
  intro n
  induction n with
  | zero =>
    intro q i hq hl
    exact ⟨q, 0, by simp [trun], Nat.le_refl _, hq, by omega, Or.inl rfl, fun r j => by simp⟩
  | succ n ih =>
    intro q i hq hl
    simp only [trun]
    by_cases h1 : (q.length : Int) < D
    · rw [if_pos h1]
      exact ⟨q, 0, by simp, by omega, hq, by omega, Or.inr (Or.inl h1), fun r j => by simp⟩
    · rw [if_neg h1]
      have hm := hq _ (rd_mem (l := q) (by omega))
      rw [if_pos (by rw [hs]; exact hm)]
      by_cases h2 : rdOf false stops (rd q 0) = true
      · rw [if_pos h2]
        exact ⟨q, 0, by simp, by omega, hq, by omega, Or.inr (Or.inr h2), fun r j => by simp⟩
      · obtain ⟨w1, w2⟩ := hw _ (rdL_mem hm.1 hm.2)
        have hlen : ((q ++ rd_L1 rules (rd q 0)).drop D.toNat).length = q.length + (rd_L1 rules (rd q 0)).length - D.toNat := by rw [List.length_drop, List.length_append]
        rw [if_neg h2, if_pos ⟨hm.2, by omega⟩, if_neg (by rw [hlen]; omega)]
        obtain ⟨q', m, a1, a2, a3, a4, a5, a6⟩ := ih ((q ++ rd_L1 rules (rd q 0)).drop D.toNat) (i + 1) (qok_drop hq w2) (by rw [hlen]; omega)
        refine ⟨q', m + 1, ?_, by omega, a3, a4, ?_, ?_⟩
        · rw [a1]; congr 3; omega
        · rcases a5 with h | h
          · left; omega
          · right; exact h
        · intro r j
          rw [Nat.add_mul, Nat.one_mul, show m * (D.toNat * rules.length) + D.toNat * rules.length + r = D.toNat * rules.length + (m * (D.toNat * rules.length) + r) by omega]
          rw [sim_step hT hq (by omega) (by omega) hR h2, a6]
          congr 1
          omega

theorem SameWheel_refl (a : Int) (q : List Int) (hq : q.length ≤ 1000000000000000) : Ev (fun k => standstillref07_SameWheel.f k a q a q) true := by
  unfold standstillref07_SameWheel.f
  simp only [Ev_ite]
  rw [if_pos trivial, Ev_bind (Same_ev q q hq), Ev_some]
  simp
theorem bitsOut_ok {D : Int} {rules : List (List Int)} {stops : List Bool} {q : List Int} (hT : okT D rules stops = true) (hR : rules.length ≤ 40) (hq : ∀ x ∈ q, 0 ≤ x ∧ x < (rules.length : Int)) (hl : q.length ≤ 3000) : okQ D rules stops q = true ∧ bitsOut D rules stops q = (flat rules q, 0) := by
  have hQ := okQ_mk (q := q) hT ⟨by omega, hq⟩
  refine ⟨hQ, ?_⟩
  have hm : q.length * rules.length ≤ 3000 * 40 := Nat.mul_le_mul hl hR
  rw [bitsOut, if_pos hQ, if_neg (by omega), bitsP_flat _ _ hq]
  rfl
theorem ty_main (D : Int) (rules : List (List Int)) (stops : List Bool) (q : List Int) (n : Nat) (hQ : okQ D rules stops q = true) (hR : rules.length ≤ 40) (hl : q.length ≤ 400) (hn : n ≤ 12) : Ev (fun k => standstilllaw07_TagCyclic.j0 k q (n : Int) false D rules stops) true := by
  obtain ⟨hT, _, hq⟩ := okQ_true hQ
  obtain ⟨hD0, hD1, hn0, hn1, hs, hw⟩ := okT_true hT
  obtain ⟨q', m, t1, t2, t3, t4, t5, t6⟩ := sim hT hR n q 0 hq (by omega)
  rw [Int.zero_add] at t1
  obtain ⟨_, hB⟩ := bitsOut_ok hT hR hq (by omega)
  obtain ⟨hQ', hB'⟩ := bitsOut_ok hT hR t3 t4
  have hfl : (flat rules q).length ≤ 400 * 40 := by rw [flat, flat_len]; exact Nat.mul_le_mul hl hR
  have hfl' : (flat rules q').length ≤ 3000 * 40 := by rw [flat, flat_len]; exact Nat.mul_le_mul t4 hR
  have hDR : D.toNat * rules.length ≤ 4 * 40 := Nat.mul_le_mul (by omega) hR
  have hmDR : m * (D.toNat * rules.length) ≤ 12 * 160 := Nat.mul_le_mul (by omega) (by omega)
  have hclen := cyc_len hT
  have e4 : 1 * 1 ≤ D.toNat * rules.length := Nat.mul_le_mul (by omega) hn0
  have hRok : okR (cyc D rules stops) 0 (flat rules q) = true := okR_mk (okW_cyc hT) ⟨by omega, by omega, by omega, fun x hx => flat_mem hx⟩
  have hT6 := t6 0 0
  rw [Nat.add_zero, Int.zero_add] at hT6
  have hroll := tag_Roll_ev (n := ((m * (D.toNat * rules.length) : Nat) : Int)) hRok (by omega) (by omega) (z := (0, flat rules q', ((m * (D.toNat * rules.length) : Nat) : Int), 0)) (by rw [Int.toNat_natCast, hT6]; rfl)
  have hrun := tag_Run_ev (n := (n : Int)) hQ (by omega) (by omega) t1
  have hmul : wrap64 (wrap64 ((m : Int) * D) * (rules.length : Int)) = ((m * (D.toNat * rules.length) : Nat) : Int) := by
    have e : (m : Int) * D = ((m * D.toNat : Nat) : Int) := by rw [Int.natCast_mul]; congr 1; omega
    have h1 : m * D.toNat ≤ 12 * 4 := Nat.mul_le_mul (by omega) (by omega)
    have h2 : m * D.toNat * rules.length = m * (D.toNat * rules.length) := Nat.mul_assoc _ _ _
    rw [e, wrap_id (x := ((m * D.toNat : Nat) : Int)) (by omega) (by omega), ← Int.natCast_mul, h2, wrap_id (by omega) (by omega)]
  rw [Ev_succ]
  simp only [standstilllaw07_TagCyclic.j0, Ev_ite]
  rw [if_neg (by decide), Ev_bind (tag_ToCyclic_ev D rules stops), if_pos hT, Ev_bind (tag_Bits_ev D rules stops q), hB]
  simp only [Ev_ite]
  rw [if_pos trivial, Ev_succ]
  simp only [standstilllaw07_TagCyclic.j1, Ev_ite]
  rw [if_neg (by decide), wrap_id (x := (n : Int)) (by omega) (by omega), Ev_bind hrun]
  simp only []
  rw [hmul, Ev_bind hroll]
  simp only [Ev_ite]
  rw [if_pos trivial, if_pos trivial, if_pos trivial, Ev_bind (ref_Fits_ev D rules stops q'), hQ', Ev_succ]
  simp only [standstilllaw07_TagCyclic.j2, Ev_ite]
  rw [if_neg (by decide), Ev_bind (tag_Bits_ev D rules stops q'), hB']
  simp only [Ev_ite]
  rw [if_pos trivial, Ev_bind (SameWheel_refl 0 (flat rules q') (by omega))]
  simp only [Ev_ite, Ev_none]
  rw [if_pos trivial, wrap_id (x := (n : Int)) (by omega) (by omega), Ev_bind awake_true, Ev_some]
  by_cases hmn : (m : Int) = (n : Int)
  · rw [if_pos hmn]
  · rw [if_neg hmn]
    by_cases hlt : (q'.length : Int) < D
    · rw [if_pos hlt]
    · rw [if_neg hlt]
      have hst : rdOf false stops (rd q' 0) = true := by
        rcases t5 with h | h | h
        · omega
        · exact absurd h hlt
        · exact h
      have hm' := t3 _ (rd_mem (l := q') (by omega))
      rw [if_pos (by omega), if_pos hm'.1, if_pos (by rw [hs]; exact hm'.2), if_pos hst]
theorem wf_u8 {x : Int} (h : (Lit.int .u8 x).wf = true) : 0 ≤ x ∧ x ≤ 255 := by
  simp only [Lit.wf, IntKind.min, IntKind.max, IntKind.signed, IntKind.bits, Bool.and_eq_true, decide_eq_true_eq] at h
  simp at h
  omega
theorem TagCyclic : standstilllaw07_TagCyclic.Pure := by
  intro D rules stops q a2 h0 h1 h2 h3 h4
  suffices h : Ev (fun k => standstilllaw07_TagCyclic.f k D rules stops q a2) true by
    obtain ⟨K, h⟩ := h
    exact ⟨K, h K (Nat.le_refl _)⟩
  obtain ⟨n0, n1⟩ := wf_u8 h4
  obtain ⟨n, rfl⟩ := Int.eq_ofNat_of_zero_le n0
  have hjt : Ev (fun k => standstilllaw07_TagCyclic.j0 k q (n : Int) true D rules stops) true := by
    rw [Ev_succ]
    simp only [standstilllaw07_TagCyclic.j0, Ev_ite]
    rw [if_pos trivial, Ev_bind awake_true, Ev_some]
  unfold standstilllaw07_TagCyclic.f
  simp only [Ev_ite]
  by_cases hR : (rules.length : Int) > 40
  · rw [if_pos hR]; exact hjt
  rw [if_neg hR]
  obtain ⟨v, hv, _⟩ := wide_ev D rules stops q
  rw [Ev_bind hv]
  simp only [Ev_ite]
  split
  · exact hjt
  rw [Ev_bind (ref_Fits_ev D rules stops q)]
  simp only [Ev_ite]
  by_cases hQ : okQ D rules stops q = true
  · rw [if_pos hQ]
    by_cases hl : (q.length : Int) > 400
    · rw [if_pos hl]; exact hjt
    rw [if_neg hl]
    obtain ⟨v2, hv2⟩ := rules_ev D rules stops (by omega)
    rw [Ev_bind hv2]
    simp only [Ev_ite]
    split
    · exact hjt
    · by_cases hn : (n : Int) > 12
      · rw [decide_eq_true hn]; exact hjt
      · rw [decide_eq_false hn]
        exact ty_main D rules stops q n hQ (by omega) (by omega) (by omega)
  · rw [if_neg hQ]; exact hjt

end Go.Proofs.Ytkinnaegedbanaa.Pure
