/- The plain law of TagCodes: Bits, Letters and ToCyclic answer as the reference does, and Letters of Bits are the letters. No condition beyond what every argument has (numbers of their kind, lists within memory). -/
import Derived.Test.YtkinnaegedbanaaAid
import Derived.Test.YtkinnaegedbanaaPTagCodesx9
namespace Go.Proofs.Ytkinnaegedbanaa.Pure
open Go.RowKit Go.Proofs.Ytkinnaegedbanaa.PTagCodes Go.Proofs.YtkinnaegedbanaaW.PrintWords Go.Proofs.YtkinnaegedbanaaW.PrintLast Go.Proofs.YtkinnaegedbanaaW.PrintMore Go.Proofs.YtkinnaegedbanaaAid
set_option linter.unusedVariables false
set_option linter.unusedSimpArgs false

theorem wrap_nat (i : Nat) (h : i ≤ 4611686018427387904) : wrap64 ((i : Int) + 1) = ((i + 1 : Nat) : Int) := by
  rw [wrap_id (by omega) (by omega)]; omega
theorem getD_lt {α : Type} (l : List α) {i : Nat} (d : α) (h : i < l.length) : l.getD i d = l[i] := by
  simp [List.getD_eq_getElem?_getD, h]
theorem rdL (l : List (List Int)) (i : Nat) (h : i < l.length) : rd_L1 l (i : Int) = l[i] := by
  simp [rd_L1, List.getD_eq_getElem?_getD, h]
/-! Letters of an alphabet. -/
def lok (n x : Int) : Bool := decide (0 ≤ x) && decide (x < n)
theorem tl_loop (n : Int) (l : List Int) (hl : l.length ≤ 1000000000000000) : ∀ (d i : Nat), i + d = l.length → Ev (fun k => tag_letters.l0 k n l (l.length : Int) (i : Int)) ((l.drop i).all (lok n)) := by
  intro d
  induction d with
  | zero =>
    intro i hi
    rw [Ev_succ]
    simp only [tag_letters.l0, Ev_ite, Ev_some, Ev_none]
    rw [if_neg (by omega), List.drop_eq_nil_of_le (by omega)]
    rfl
  | succ d ih =>
    intro i hi
    have hlt : i < l.length := by omega
    have ih := ih (i + 1) (by omega)
    rw [drop_cons l i hlt, List.all_cons, Ev_succ]
    simp only [tag_letters.l0, Ev_ite, Ev_some, Ev_none]
    rw [if_pos (by omega), if_pos (by omega), if_pos (by omega), rd_nat l i hlt, wrap_nat i (by omega)]
    by_cases h0 : l[i] < 0
    · rw [if_pos h0, lok, decide_eq_false (by omega)]; rfl
    · rw [if_neg h0]
      by_cases h1 : l[i] ≥ n
      · rw [if_pos h1, lok, decide_eq_true (by omega), decide_eq_false (by omega)]; rfl
      · rw [if_neg h1, lok, decide_eq_true (by omega), decide_eq_true (by omega)]
        exact ih
theorem tag_letters_ev (n : Int) (l : List Int) (hl : l.length ≤ 1000000000000000) : Ev (fun k => tag_letters.f k l n) (l.all (lok n)) := tl_loop n l hl l.length 0 (by omega)
theorem rl_loop (n : Int) (l : List Int) (hl : l.length ≤ 1000000000000000) : ∀ (d i : Nat), i + d = l.length → Ev (fun k => standstillref07_letters.l0 k l n (i : Int)) ((l.drop i).all (lok n)) := by
  intro d
  induction d with
  | zero =>
    intro i hi
    rw [Ev_succ]
    simp only [standstillref07_letters.l0, Ev_ite, Ev_some, Ev_none]
    rw [if_neg (by omega), List.drop_eq_nil_of_le (by omega)]
    rfl
  | succ d ih =>
    intro i hi
    have hlt : i < l.length := by omega
    have ih := ih (i + 1) (by omega)
    rw [drop_cons l i hlt, List.all_cons, Ev_succ]
    simp only [standstillref07_letters.l0, Ev_ite, Ev_some, Ev_none]
    have hgo : lok n l[i] = true → Ev (fun k => standstillref07_letters.l0 k l n (wrap64 ((i : Int) + 1))) (lok n l[i] && (l.drop (i + 1)).all (lok n)) := by
      intro h
      rw [wrap_nat i (by omega), h, Bool.true_and]
      exact ih
    have hno : lok n l[i] = false → (false = (lok n l[i] && (l.drop (i + 1)).all (lok n))) := by
      intro h
      rw [h, Bool.false_and]
    rw [rd_nat l i hlt]
    generalize l[i] = x at hgo hno ⊢
    simp only [lok, Bool.and_eq_true, decide_eq_true_eq, Bool.and_eq_false_iff, decide_eq_false_iff_not] at hgo hno
    repeat' split
    all_goals first | (exfalso; omega) | (refine hgo ?_; omega) | (refine hno ?_; omega)
theorem ref_letters_ev (n : Int) (l : List Int) (hl : l.length ≤ 1000000000000000) : Ev (fun k => standstillref07_letters.f k l n) (l.all (lok n)) := rl_loop n l hl l.length 0 (by omega)
/-! Tag systems. -/
def wok (n : Int) (w : List Int) : Bool := decide (w.length ≤ 200) && w.all (lok n)
def okT (D : Int) (rules : List (List Int)) (stops : List Bool) : Bool := decide (1 ≤ D ∧ D ≤ 4 ∧ 1 ≤ rules.length ∧ rules.length ≤ 600 ∧ stops.length = rules.length) && rules.all (wok rules.length)
theorem tv_loop (rules : List (List Int)) (hn : rules.length ≤ 600) : ∀ (d i : Nat), i + d = rules.length → Ev (fun k => tag_Valid.l0 k (rules.length : Int) rules (rules.length : Int) (i : Int)) ((rules.drop i).all (wok rules.length)) := by
  intro d
  induction d with
  | zero =>
    intro i hi
    rw [Ev_succ]
    simp only [tag_Valid.l0, Ev_ite, Ev_some, Ev_none]
    rw [if_neg (by omega), List.drop_eq_nil_of_le (by omega)]
    rfl
  | succ d ih =>
    intro i hi
    have hlt : i < rules.length := by omega
    have ih := ih (i + 1) (by omega)
    rw [drop_cons rules i hlt, List.all_cons, Ev_succ]
    simp only [tag_Valid.l0, Ev_ite, Ev_some, Ev_none]
    rw [if_pos (by omega), if_pos (by omega), if_pos (by omega), rdL rules i hlt, wrap_nat i (by omega)]
    by_cases h0 : ((rules[i].length : Int)) > 200
    · rw [if_pos h0, wok, decide_eq_false (by omega)]; rfl
    · rw [if_neg h0, Ev_bind (tag_letters_ev (rules.length : Int) rules[i] (by omega))]
      simp only [Ev_ite, Ev_some]
      rw [wok, decide_eq_true (by omega), Bool.true_and]
      by_cases h1 : rules[i].all (lok rules.length) = true
      · rw [if_pos h1, h1, Bool.true_and]; exact ih
      · rw [if_neg h1, Bool.eq_false_iff.2 h1, Bool.false_and]
theorem tag_Valid_ev (D : Int) (rules : List (List Int)) (stops : List Bool) : Ev (fun k => tag_Valid.f k D rules stops) (okT D rules stops) := by
  unfold tag_Valid.f
  have hj : ∀ b, (b = true → ¬ (1 ≤ D ∧ D ≤ 4 ∧ 1 ≤ rules.length ∧ rules.length ≤ 600 ∧ stops.length = rules.length)) → (b = false → (1 ≤ D ∧ D ≤ 4 ∧ 1 ≤ rules.length ∧ rules.length ≤ 600 ∧ stops.length = rules.length)) → Ev (fun k => tag_Valid.j0 k (rules.length : Int) b D rules stops) (okT D rules stops) := by
    intro b h1 h2
    rw [Ev_succ]
    simp only [tag_Valid.j0, Ev_ite, Ev_some]
    cases b with
    | true => rw [if_pos rfl, okT, decide_eq_false (h1 rfl), Bool.false_and]
    | false =>
      rw [if_neg (by simp), okT, decide_eq_true (h2 rfl), Bool.true_and]
      exact tv_loop rules (h2 rfl).2.2.2.1 rules.length 0 (by omega)
  simp only [Ev_ite]
  repeat' split
  all_goals refine hj _ (fun h => ?_) (fun h => ?_)
  all_goals first | (cases h; done) | omega | (simp at h; omega)
theorem rv_loop (D : Int) (rules : List (List Int)) (stops : List Bool) (hn : rules.length ≤ 600) : ∀ (d i : Nat), i + d = rules.length → Ev (fun k => standstillref07_Valid.l0 k (rules.length : Int) (i : Int) D rules stops) ((rules.drop i).all (wok rules.length)) := by
  intro d
  induction d with
  | zero =>
    intro i hi
    rw [Ev_succ]
    simp only [standstillref07_Valid.l0, Ev_ite, Ev_some, Ev_none]
    rw [if_neg (by omega), List.drop_eq_nil_of_le (by omega)]
    rfl
  | succ d ih =>
    intro i hi
    have hlt : i < rules.length := by omega
    have ih := ih (i + 1) (by omega)
    rw [drop_cons rules i hlt, List.all_cons, Ev_succ]
    simp only [standstillref07_Valid.l0, Ev_ite, Ev_some, Ev_none]
    rw [if_pos (by omega), if_pos (by omega), if_pos (by omega), rdL rules i hlt, wrap_nat i (by omega)]
    by_cases h0 : ((rules[i].length : Int)) > 200
    · rw [if_pos h0, wok, decide_eq_false (by omega)]; rfl
    · rw [if_neg h0, Ev_bind (ref_letters_ev (rules.length : Int) rules[i] (by omega))]
      simp only [Ev_ite, Ev_some]
      rw [wok, decide_eq_true (by omega), Bool.true_and]
      by_cases h1 : rules[i].all (lok rules.length) = true
      · rw [if_pos h1, h1, Bool.true_and]; exact ih
      · rw [if_neg h1, Bool.eq_false_iff.2 h1, Bool.false_and]
theorem ref_Valid_ev (D : Int) (rules : List (List Int)) (stops : List Bool) : Ev (fun k => standstillref07_Valid.f k D rules stops) (okT D rules stops) := by
  unfold standstillref07_Valid.f
  have hj : ∀ b, (b = true → ¬ (1 ≤ D ∧ D ≤ 4 ∧ 1 ≤ rules.length ∧ rules.length ≤ 600 ∧ stops.length = rules.length)) → (b = false → (1 ≤ D ∧ D ≤ 4 ∧ 1 ≤ rules.length ∧ rules.length ≤ 600 ∧ stops.length = rules.length)) → Ev (fun k => standstillref07_Valid.j0 k (rules.length : Int) b D rules stops) (okT D rules stops) := by
    intro b h1 h2
    rw [Ev_succ]
    simp only [standstillref07_Valid.j0, Ev_ite, Ev_some]
    cases b with
    | true => rw [if_pos rfl, okT, decide_eq_false (h1 rfl), Bool.false_and]
    | false =>
      rw [if_neg (by simp), okT, decide_eq_true (h2 rfl), Bool.true_and]
      exact rv_loop D rules stops (h2 rfl).2.2.2.1 rules.length 0 (by omega)
  simp only [Ev_ite]
  repeat' split
  all_goals refine hj _ (fun h => ?_) (fun h => ?_)
  all_goals first | (cases h; done) | omega | (simp at h; omega)
theorem okT_true {D : Int} {rules : List (List Int)} {stops : List Bool} (h : okT D rules stops = true) : 1 ≤ D ∧ D ≤ 4 ∧ 1 ≤ rules.length ∧ rules.length ≤ 600 ∧ stops.length = rules.length ∧ ∀ w ∈ rules, w.length ≤ 200 ∧ ∀ x ∈ w, 0 ≤ x ∧ x < rules.length := by
  simp only [okT, wok, lok, Bool.and_eq_true, decide_eq_true_eq, List.all_eq_true] at h
  exact ⟨h.1.1, h.1.2.1, h.1.2.2.1, h.1.2.2.2.1, h.1.2.2.2.2, h.2⟩
def okQ (D : Int) (rules : List (List Int)) (stops : List Bool) (q : List Int) : Bool := okT D rules stops && (decide (q.length ≤ 100000) && q.all (lok rules.length))
theorem tag_Fits_ev (D : Int) (rules : List (List Int)) (stops : List Bool) (q : List Int) : Ev (fun k => tag_Fits.f k D rules stops q) (okQ D rules stops q) := by
  unfold tag_Fits.f
  rw [Ev_bind (tag_Valid_ev D rules stops)]
  simp only [Ev_ite, Ev_some]
  by_cases hv : okT D rules stops = true
  · rw [if_pos hv, okQ, hv, Bool.true_and]
    by_cases hl : (q.length : Int) ≤ 100000
    · rw [if_pos hl, Ev_bind (tag_letters_ev _ q (by omega)), Ev_some, decide_eq_true (by omega), Bool.true_and]
    · rw [if_neg hl, decide_eq_false (by omega), Bool.false_and]
  · rw [if_neg hv, okQ, Bool.eq_false_iff.2 hv, Bool.false_and]
theorem ref_Fits_ev (D : Int) (rules : List (List Int)) (stops : List Bool) (q : List Int) : Ev (fun k => standstillref07_Fits.f k D rules stops q) (okQ D rules stops q) := by
  unfold standstillref07_Fits.f
  rw [Ev_bind (ref_Valid_ev D rules stops)]
  simp only [Ev_ite, Ev_some]
  by_cases hv : okT D rules stops = true
  · rw [if_pos hv, okQ, hv, Bool.true_and]
    by_cases hl : (q.length : Int) ≤ 100000
    · rw [if_pos hl, Ev_bind (ref_letters_ev _ q (by omega)), Ev_some, decide_eq_true (by omega), Bool.true_and]
    · rw [if_neg hl, decide_eq_false (by omega), Bool.false_and]
  · rw [if_neg hv, okQ, Bool.eq_false_iff.2 hv, Bool.false_and]
theorem okQ_true {D : Int} {rules : List (List Int)} {stops : List Bool} {q : List Int} (h : okQ D rules stops q = true) : okT D rules stops = true ∧ q.length ≤ 100000 ∧ ∀ x ∈ q, 0 ≤ x ∧ x < rules.length := by
  simp only [okQ, lok, Bool.and_eq_true, decide_eq_true_eq, List.all_eq_true] at h
  exact ⟨h.1, h.2.1, h.2.2⟩
/-! Equal lists. -/
theorem same_loop (a b : List Int) (hl : a.length = b.length) (hs : a.length ≤ 1000000000000000) : ∀ (d i : Nat), i + d = a.length → Ev (fun k => standstillref07_Same.l0 k a b (i : Int)) (decide (a.drop i = b.drop i)) := by
  intro d
  induction d with
  | zero =>
    intro i hi
    rw [Ev_succ]
    simp only [standstillref07_Same.l0, Ev_ite, Ev_some, Ev_none]
    rw [if_neg (by omega), List.drop_eq_nil_of_le (by omega), List.drop_eq_nil_of_le (by omega)]
    rfl
  | succ d ih =>
    intro i hi
    have ha : i < a.length := by omega
    have hb : i < b.length := by omega
    have ih := ih (i + 1) (by omega)
    rw [drop_cons a i ha, drop_cons b i hb, Ev_succ]
    simp only [standstillref07_Same.l0, Ev_ite, Ev_some, Ev_none]
    rw [if_pos (by omega), if_pos (by omega), if_pos (by omega), rd_nat a i ha, rd_nat b i hb, wrap_nat i (by omega)]
    generalize List.drop (i + 1) a = A at ih ⊢
    generalize List.drop (i + 1) b = B at ih ⊢
    generalize a[i] = x
    generalize b[i] = y
    by_cases h : x = y
    · rw [if_pos h]; simpa [h] using ih
    · rw [if_neg h]; simp [h]
theorem Same_ev (a b : List Int) (hs : a.length ≤ 1000000000000000) : Ev (fun k => standstillref07_Same.f k a b) (decide (a = b)) := by
  unfold standstillref07_Same.f
  simp only [Ev_ite, Ev_some]
  by_cases h : (a.length : Int) = (b.length : Int)
  · rw [if_pos h]
    exact same_loop a b (by omega) hs a.length 0 (by omega)
  · rw [if_neg h, decide_eq_false]
    rintro rfl
    exact h rfl

/-! Encoded letters. -/
def bitsGo (n : Int) : List Int → Nat → List Int → List Int
  | [], _, acc => acc
  | x :: xs, i, acc => bitsGo n xs (i + 1) (acc.set ((i : Int) * n + x).toNat 1)
def bitsP (n : Nat) (l : List Int) : List Int := bitsGo n l 0 (List.replicate (l.length * n) 0)
theorem mul_lt_of {i n x L : Int} (hi : i + 1 ≤ L) (h0 : 0 ≤ i) (hx0 : 0 ≤ x) (hx : x < n) : 0 ≤ i * n ∧ i * n + x < L * n := by
  have hn : 0 ≤ n := by omega
  have h1 : (i + 1) * n ≤ L * n := Int.mul_le_mul_of_nonneg_right hi hn
  have h2 : 0 ≤ i * n := Int.mul_nonneg h0 hn
  rw [Int.add_mul, Int.one_mul] at h1
  omega
theorem tb_loop (n : Nat) (l : List Int) (hb : l.length * n ≤ 1000000000000000) (hl : ∀ x ∈ l, 0 ≤ x ∧ x < n) : ∀ (d i : Nat) (acc : List Int), i + d = l.length → acc.length = l.length * n → Ev (fun k => tag_bits.l0 k (n : Int) acc l (l.length : Int) (i : Int)) (bitsGo n (l.drop i) i acc) := by
  intro d
  induction d with
  | zero =>
    intro i acc hi ha
    rw [Ev_succ]
    simp only [tag_bits.l0, Ev_ite, Ev_some, Ev_none]
    rw [if_neg (by omega), List.drop_eq_nil_of_le (by omega)]
    rfl
  | succ d ih =>
    intro i acc hi ha
    have hlt : i < l.length := by omega
    obtain ⟨h0, h1⟩ := hl _ (List.getElem_mem hlt)
    have hll : l.length ≤ 1000000000000000 := by
      have : 0 < n := by omega
      exact Nat.le_trans (Nat.le_mul_of_pos_right _ this) hb
    obtain ⟨m0, m1⟩ := mul_lt_of (i := i) (n := n) (x := l[i]) (L := l.length) (by omega) (by omega) h0 h1
    have hb' : (l.length : Int) * (n : Int) ≤ 1000000000000000 := by rw [← Int.natCast_mul]; exact Int.ofNat_le.2 hb
    have ha' : (acc.length : Int) = (l.length : Int) * (n : Int) := by rw [ha]; exact Int.natCast_mul _ _
    rw [drop_cons l i hlt, bitsGo]
    have ih := ih (i + 1) (acc.set ((i : Int) * n + l[i]).toNat 1) (by omega) (by simpa using ha)
    rw [Ev_succ]
    simp only [tag_bits.l0, Ev_ite, Ev_some, Ev_none]
    rw [rd_nat l i hlt]
    generalize l[i] = x at *
    generalize (i : Int) * (n : Int) = m at *
    generalize (l.length : Int) * (n : Int) = M at *
    rw [wrap_nat i (by omega), wrap_id (x := m) (by omega) (by omega), wrap_id (x := m + x) (by omega) (by omega)]
    rw [if_pos (by omega), if_pos (by omega), if_pos (by omega), if_pos (by omega), if_pos (by omega)]
    exact ih
theorem tag_bits_ev (n : Nat) (l : List Int) (hb : l.length * n ≤ 10000000000000) (hl : ∀ x ∈ l, 0 ≤ x ∧ x < n) : Ev (fun k => tag_bits.f k l (n : Int)) (bitsP n l) := by
  unfold tag_bits.f
  have hb' : (l.length : Int) * (n : Int) = ((l.length * n : Nat) : Int) := by simp
  simp only [Ev_ite, Ev_none]
  rw [hb', wrap_id (by omega) (by omega), if_pos (by omega), if_pos (by omega), Int.toNat_natCast]
  exact tb_loop n l (by omega) hl l.length 0 _ (by omega) (by simp)
theorem rb_loop (n : Nat) (l : List Int) (hb : l.length * n ≤ 1000000000000000) (hl : ∀ x ∈ l, 0 ≤ x ∧ x < n) : ∀ (d i : Nat) (acc : List Int), i + d = l.length → acc.length = l.length * n → Ev (fun k => standstillref07_Bits.l0 k l (n : Int) acc (i : Int)) (bitsGo n (l.drop i) i acc) := by
  intro d
  induction d with
  | zero =>
    intro i acc hi ha
    rw [Ev_succ]
    simp only [standstillref07_Bits.l0, Ev_ite, Ev_some, Ev_none]
    rw [if_neg (by omega), List.drop_eq_nil_of_le (by omega)]
    rfl
  | succ d ih =>
    intro i acc hi ha
    have hlt : i < l.length := by omega
    obtain ⟨h0, h1⟩ := hl _ (List.getElem_mem hlt)
    have hll : l.length ≤ 1000000000000000 := by
      have : 0 < n := by omega
      exact Nat.le_trans (Nat.le_mul_of_pos_right _ this) hb
    obtain ⟨m0, m1⟩ := mul_lt_of (i := i) (n := n) (x := l[i]) (L := l.length) (by omega) (by omega) h0 h1
    have hb' : (l.length : Int) * (n : Int) ≤ 1000000000000000 := by rw [← Int.natCast_mul]; exact Int.ofNat_le.2 hb
    have ha' : (acc.length : Int) = (l.length : Int) * (n : Int) := by rw [ha]; exact Int.natCast_mul _ _
    rw [drop_cons l i hlt, bitsGo]
    have ih := ih (i + 1) (acc.set ((i : Int) * n + l[i]).toNat 1) (by omega) (by simpa using ha)
    rw [Ev_succ]
    simp only [standstillref07_Bits.l0, Ev_ite, Ev_some, Ev_none]
    rw [rd_nat l i hlt]
    generalize l[i] = x at *
    generalize (i : Int) * (n : Int) = m at *
    generalize (l.length : Int) * (n : Int) = M at *
    rw [wrap_nat i (by omega), wrap_id (x := m) (by omega) (by omega), wrap_id (x := m + x) (by omega) (by omega)]
    rw [if_pos (by omega), if_pos (by omega), if_pos (by omega), if_pos (by omega)]
    exact ih
theorem ref_Bits_ev (n : Nat) (l : List Int) (hb : l.length * n ≤ 10000000000000) (hl : ∀ x ∈ l, 0 ≤ x ∧ x < n) : Ev (fun k => standstillref07_Bits.f k l (n : Int)) (bitsP n l) := by
  unfold standstillref07_Bits.f
  have hb' : (l.length : Int) * (n : Int) = ((l.length * n : Nat) : Int) := by simp
  simp only [Ev_ite, Ev_none]
  rw [hb', wrap_id (by omega) (by omega), if_pos (by omega), if_pos (by omega), Int.toNat_natCast]
  exact rb_loop n l (by omega) hl l.length 0 _ (by omega) (by simp)
/-- One encoded letter. -/
def enc (n : Nat) (x : Int) : List Int := (List.replicate n 0).set x.toNat 1
theorem bitsGo_flat (n : Nat) : ∀ (l : List Int) (i : Nat) (pre : List Int), pre.length = i * n → (∀ x ∈ l, 0 ≤ x ∧ x < n) → bitsGo n l i (pre ++ List.replicate (l.length * n) 0) = pre ++ (l.map (enc n)).flatten := by
  intro l
  induction l with
  | nil => intro i pre hp hl; simp [bitsGo]
  | cons x xs ih =>
    intro i pre hp hl
    obtain ⟨h0, h1⟩ := hl x (by simp)
    rw [bitsGo]
    have e1 : ((i : Int) * (n : Int) + x).toNat = pre.length + x.toNat := by
      have : (i : Int) * (n : Int) = ((i * n : Nat) : Int) := by simp
      rw [this, hp]
      omega
    have e2 : List.replicate ((x :: xs).length * n) (0 : Int) = List.replicate n 0 ++ List.replicate (xs.length * n) 0 := by
      rw [List.replicate_append_replicate, List.length_cons, Nat.add_mul, Nat.one_mul, Nat.add_comm]
    rw [e1, e2, List.set_append_right _ _ (by omega), Nat.add_sub_cancel_left, List.set_append_left _ _ (by simp; omega)]
    have := ih (i + 1) (pre ++ enc n x) (by simp [enc, hp, Nat.add_mul]) (fun y hy => hl y (by simp [hy]))
    simpa [enc] using this
theorem bitsP_flat (n : Nat) (l : List Int) (hl : ∀ x ∈ l, 0 ≤ x ∧ x < n) : bitsP n l = (l.map (enc n)).flatten := by
  have := bitsGo_flat n l 0 [] (by simp) hl
  simpa [bitsP] using this

/-! Letters that are encoded. -/
def decA : List Int → Nat → Option Nat
  | [], _ => none
  | y :: ys, j => if y = 1 then (if ys.all (fun z => decide (z = 0)) = true then some j else none) else if y = 0 then decA ys (j + 1) else none
def idxP : List Int → Nat → Int
  | [], _ => -1
  | y :: ys, j => if y = 1 then (j : Int) else idxP ys (j + 1)
def tagA (n : Nat) (c : List Int) : Option Nat := if idxP c 0 < 0 then none else if c = enc n (idxP c 0) then some (idxP c 0).toNat else none
theorem idxP_ge : ∀ (ys : List Int) (j : Nat), idxP ys j = -1 ∨ (j : Int) ≤ idxP ys j := by
  intro ys
  induction ys with
  | nil => intro j; left; rfl
  | cons y ys ih =>
    intro j
    rw [idxP]
    by_cases h : y = 1
    · rw [if_pos h]; right; omega
    · rw [if_neg h]
      rcases ih (j + 1) with h | h
      · left; exact h
      · right; omega
theorem all_zero (ys : List Int) : (ys.all (fun z => decide (z = 0)) = true) ↔ ys = List.replicate ys.length 0 := by
  rw [List.all_eq_true, List.eq_replicate_iff]
  simp
theorem tagA_dec (c : List Int) : ∀ (ys : List Int) (j : Nat), c = List.replicate j 0 ++ ys → (if idxP ys j < 0 then none else if c = enc c.length (idxP ys j) then some (idxP ys j).toNat else none) = decA ys j := by
  intro ys
  induction ys with
  | nil => intro j hc; rfl
  | cons y ys ih =>
    intro j hc
    rw [idxP, decA]
    by_cases h1 : y = 1
    · rw [if_pos h1, if_pos h1, if_neg (by omega)]
      have e : (enc c.length (j : Int)) = List.replicate j 0 ++ 1 :: List.replicate ys.length 0 := by
        have : c.length = j + (ys.length + 1) := by rw [hc]; simp
        rw [enc, this, ← List.replicate_append_replicate, List.set_append_right _ _ (by simp)]
        simp [List.replicate_succ]
      rw [e, hc, h1]
      by_cases hz : ys.all (fun z => decide (z = 0)) = true
      · rw [if_pos hz, if_pos (by rw [← (all_zero ys).1 hz])]; simp
      · rw [if_neg hz, if_neg]
        intro h
        have h := List.append_cancel_left h
        injection h with _ h
        exact hz ((all_zero ys).2 h)
    · rw [if_neg h1, if_neg h1]
      by_cases h0 : y = 0
      · rw [if_pos h0]
        refine ih (j + 1) ?_
        rw [hc, h0, List.replicate_succ', List.append_assoc]; rfl
      · rw [if_neg h0]
        rcases idxP_ge ys (j + 1) with h | h
        · rw [if_pos (by omega)]
        · rw [if_neg (by omega), if_neg]
          intro he
          have hj : c[j]? = some y := by rw [hc]; simp
          have hj2 : (enc c.length (idxP ys (j + 1)))[j]? = some 0 := by
            have : j < c.length := by rw [hc]; simp
            rw [enc, List.getElem?_set, if_neg (by omega), List.getElem?_replicate, if_pos this]
          rw [← he, hj] at hj2
          injection hj2 with hj2
          exact h0 hj2
theorem tagA_eq (c : List Int) : tagA c.length c = decA c 0 := tagA_dec c c 0 rfl
theorem decA_lt : ∀ (ys : List Int) (j t : Nat), decA ys j = some t → j ≤ t ∧ t < j + ys.length := by
  intro ys
  induction ys with
  | nil => intro j t h; cases h
  | cons y ys ih =>
    intro j t h
    rw [decA] at h
    split at h
    · split at h
      · injection h with h; subst h; simp
      · cases h
    · split at h
      · have := ih (j + 1) t h
        simp only [List.length_cons]
        omega
      · cases h
theorem decA_enc (n : Nat) : ∀ (x j : Nat), x < n → decA (enc n (x : Int)) j = some (j + x) := by
  intro x
  have h : ∀ (m x j : Nat), decA (List.replicate x 0 ++ 1 :: List.replicate m 0) j = some (j + x) := by
    intro m x
    induction x with
    | zero =>
      intro j
      rw [List.replicate_zero, List.nil_append, decA, if_pos rfl, if_pos (by simp)]
      rfl
    | succ x ih =>
      intro j
      rw [List.replicate_succ, List.cons_append, decA, if_neg (by decide), if_pos rfl, ih (j + 1)]
      congr 1
      omega
  intro j hx
  have e : enc n (x : Int) = List.replicate x 0 ++ 1 :: List.replicate (n - x - 1) 0 := by
    have : n = x + ((n - x - 1) + 1) := by omega
    rw [enc]
    conv => lhs; rw [this]
    rw [← List.replicate_append_replicate, List.set_append_right _ _ (by simp)]
    simp [List.replicate_succ]
  rw [e, h]
def chunk (n : Nat) (b : List Int) (p : Nat) : List Int := (b.take (p + n)).drop p
theorem chunk_len (n : Nat) (b : List Int) (p : Nat) (h : p + n ≤ b.length) : (chunk n b p).length = n := by
  rw [chunk, List.length_drop, List.length_take]; omega
/-- All encoded letters, from place p on. -/
def decGo (n : Nat) (b : List Int) : Nat → Nat → List Int → Option (List Int)
  | 0, _, acc => some acc
  | d + 1, p, acc => match decA (chunk n b p) 0 with
    | none => none
    | some t => decGo n b d (p + n) (acc ++ [(t : Int)])
theorem idx_loop (c : List Int) (hc : c.length ≤ 1000000) : ∀ (d i : Nat), i + d = c.length → Ev (fun k => slices_Index_int_int.l0 k c 1 (c.length : Int) (i : Int)) (idxP (c.drop i) i) := by
  intro d
  induction d with
  | zero =>
    intro i hi
    rw [Ev_succ]
    simp only [slices_Index_int_int.l0, Ev_ite, Ev_some, Ev_none]
    rw [if_neg (by omega), List.drop_eq_nil_of_le (by omega)]
    rfl
  | succ d ih =>
    intro i hi
    have hlt : i < c.length := by omega
    have ih := ih (i + 1) (by omega)
    rw [drop_cons c i hlt, idxP, Ev_succ]
    simp only [slices_Index_int_int.l0, Ev_ite, Ev_some, Ev_none]
    rw [if_pos (by omega), if_pos (by omega), if_pos (by omega), rd_nat c i hlt, wrap_nat i (by omega)]
    by_cases h : c[i] = 1
    · rw [if_pos h.symm, if_pos h]
    · rw [if_neg (fun e => h e.symm), if_neg h]
      exact ih
theorem eq_loop (a b : List Int) (hl : a.length = b.length) (hs : a.length ≤ 1000000) : ∀ (d i : Nat), i + d = a.length → Ev (fun k => slices_Equal_int_int.l0 k a b (a.length : Int) (i : Int)) (decide (a.drop i = b.drop i)) := by
  intro d
  induction d with
  | zero =>
    intro i hi
    rw [Ev_succ]
    simp only [slices_Equal_int_int.l0, Ev_ite, Ev_some, Ev_none]
    rw [if_neg (by omega), List.drop_eq_nil_of_le (by omega), List.drop_eq_nil_of_le (by omega)]
    rfl
  | succ d ih =>
    intro i hi
    have ha : i < a.length := by omega
    have hb : i < b.length := by omega
    have ih := ih (i + 1) (by omega)
    rw [drop_cons a i ha, drop_cons b i hb, Ev_succ]
    simp only [slices_Equal_int_int.l0, Ev_ite, Ev_some, Ev_none]
    rw [if_pos (by omega), if_pos (by omega), if_pos (by omega), if_pos (by omega), rd_nat a i ha, rd_nat b i hb, wrap_nat i (by omega)]
    generalize List.drop (i + 1) a = A at ih ⊢
    generalize List.drop (i + 1) b = B at ih ⊢
    generalize a[i] = x
    generalize b[i] = y
    by_cases h : x = y
    · rw [if_pos h]; simpa [h] using ih
    · rw [if_neg h]; simp [h]
theorem Equal_ev (a b : List Int) (hs : a.length ≤ 1000000) : Ev (fun k => slices_Equal_int_int.f k a b) (decide (a = b)) := by
  unfold slices_Equal_int_int.f
  simp only [Ev_ite, Ev_some]
  by_cases h : (a.length : Int) = (b.length : Int)
  · rw [if_pos h]
    exact eq_loop a b (by omega) hs a.length 0 (by omega)
  · rw [if_neg h, decide_eq_false]
    rintro rfl
    exact h rfl
def tagOut : Option (List Int) → List Int × Int
  | none => ([], 2)
  | some l => (l, 0)
def refOut : Option (List Int) → List Int × Bool
  | none => ([], false)
  | some l => (l, true)
theorem bitsP_one (n : Nat) (t : Int) (h0 : 0 ≤ t) (h1 : t < n) : bitsP n [t] = enc n t := by
  rw [bitsP_flat n [t] (by simpa using ⟨h0, h1⟩)]; simp
theorem tL_loop (n : Nat) (hn0 : 1 ≤ n) (hn : n ≤ 600) (b : List Int) (hb : b.length ≤ 100000000000) : ∀ (d p : Nat) (acc : List Int), p + d * n = b.length → acc.length ≤ p → Ev (fun k => tag_Letters.l0 k b (n : Int) acc (p : Int)) (tagOut (decGo n b d p acc)) := by
  intro d
  induction d with
  | zero =>
    intro p acc hp ha
    rw [Ev_succ]
    simp only [tag_Letters.l0, Ev_ite, Ev_some, Ev_none]
    rw [if_neg (by omega)]
    rfl
  | succ d ih =>
    intro p acc hp ha
    have hp2 : p + n + d * n = b.length := by rw [Nat.add_mul, Nat.one_mul] at hp; omega
    have hpn : p + n ≤ b.length := by omega
    have hcl := chunk_len n b p hpn
    rw [Ev_succ]
    simp only [tag_Letters.l0, Ev_ite, Ev_some, Ev_none]
    have hw : wrap64 ((p : Int) + (n : Int)) = ((p + n : Nat) : Int) := by rw [wrap_id (by omega) (by omega)]; omega
    have hc : (b.take (((p + n : Nat) : Int)).toNat).drop ((p : Int)).toNat = chunk n b p := rfl
    rw [hw, hc, if_pos (by omega), if_pos (by omega), if_pos (by omega), if_pos (by omega)]
    have hidx : Ev (fun k => slices_Index_int_int.f k (chunk n b p) 1) (idxP (chunk n b p) 0) := idx_loop (chunk n b p) (by omega) (chunk n b p).length 0 (by omega)
    rw [Ev_bind hidx]
    have hdec := tagA_eq (chunk n b p)
    rw [hcl, tagA] at hdec
    rw [decGo, ← hdec]
    simp only [Ev_ite, Ev_some]
    by_cases h0 : idxP (chunk n b p) 0 < 0
    · rw [if_pos h0, if_pos h0]; rfl
    · rw [if_neg h0, if_neg h0]
      have hlt : idxP (chunk n b p) 0 < n := by
        have : ∀ (ys : List Int) (j : Nat), idxP ys j < ((j + ys.length : Nat) : Int) ∨ idxP ys j = -1 := by
          intro ys
          induction ys with
          | nil => intro j; right; rfl
          | cons y ys ih =>
            intro j
            rw [idxP]
            by_cases h : y = 1
            · rw [if_pos h]; left; simp only [List.length_cons]; omega
            · rw [if_neg h]
              rcases ih (j + 1) with h | h
              · left; simp only [List.length_cons]; omega
              · right; exact h
        rcases this (chunk n b p) 0 with h | h
        · rw [hcl] at h; omega
        · omega
      rw [Ev_bind (tag_bits_ev n [idxP (chunk n b p) 0] (by simp; omega) (by intro x hx; simp at hx; subst hx; exact ⟨by omega, hlt⟩)), bitsP_one n _ (by omega) hlt, Ev_bind (Equal_ev (chunk n b p) (enc n (idxP (chunk n b p) 0)) (by omega))]
      simp only [Ev_ite, Ev_some, decide_eq_true_eq]
      by_cases he : chunk n b p = enc n (idxP (chunk n b p) 0)
      · rw [if_pos he, if_pos he, if_pos (by omega)]
        have := ih (p + n) (acc ++ [idxP (chunk n b p) 0]) hp2 (by simp; omega)
        have ht : (((idxP (chunk n b p) 0).toNat : Nat) : Int) = idxP (chunk n b p) 0 := by omega
        show Ev _ (tagOut (decGo n b d (p + n) (acc ++ [(((idxP (chunk n b p) 0).toNat : Nat) : Int)])))
        rw [ht]
        exact this
      · rw [if_neg he, if_neg he]; rfl

theorem chunk_get (n : Nat) (b : List Int) (p j : Nat) (h : p + n ≤ b.length) (hj : j < n) : (chunk n b p)[j]'(by rw [chunk_len n b p h]; exact hj) = b[p + j]'(by omega) := by
  simp [chunk]
theorem wrap_addn (p j : Nat) (h : p + j ≤ 4611686018427387904) : wrap64 ((p : Int) + (j : Int)) = ((p + j : Nat) : Int) := by
  rw [wrap_id (by omega) (by omega)]; omega
theorem rL_one (n : Nat) (hn0 : 1 ≤ n) (hn : n ≤ 600) (b : List Int) (hb : b.length ≤ 100000000000) (p : Nat) (acc : List Int) (r : List Int × Bool) (hp : p + n ≤ b.length) (ha : acc.length ≤ p)
    (hbad : decA (chunk n b p) 0 = none → r = ([], false))
    (hgood : ∀ t, decA (chunk n b p) 0 = some t → Ev (fun k => standstillref07_Letters.l0 k b (n : Int) (acc ++ [(t : Int)]) ((p + n : Nat) : Int)) r) : ∀ (d j : Nat), j + d = n →
    (decA (chunk n b p) 0 = decA ((chunk n b p).drop j) j → Ev (fun k => standstillref07_Letters.l1 k b (n : Int) acc (p : Int) (-1) (j : Int)) r) ∧
    (∀ t : Nat, decA (chunk n b p) 0 = (if ((chunk n b p).drop j).all (fun z => decide (z = 0)) = true then some t else none) → Ev (fun k => standstillref07_Letters.l1 k b (n : Int) acc (p : Int) (t : Int) (j : Int)) r) := by
  have hcl := chunk_len n b p hp
  intro d
  induction d with
  | zero =>
    intro j hj
    have hd : (chunk n b p).drop j = [] := List.drop_eq_nil_of_le (by omega)
    rw [hd]
    constructor
    · intro h
      rw [Ev_succ]
      simp only [standstillref07_Letters.l1, Ev_ite, Ev_some, Ev_none]
      rw [if_neg (by omega), if_pos (by omega)]
      exact (hbad h).symm
    · intro t h
      rw [Ev_succ]
      simp only [standstillref07_Letters.l1, Ev_ite, Ev_some, Ev_none]
      rw [if_neg (by omega), if_neg (by omega), if_pos (by omega), wrap_addn p n (by omega)]
      exact hgood t h
  | succ d ih =>
    intro j hj
    obtain ⟨ihA, ihB⟩ := ih (j + 1) (by omega)
    have hlt : j < (chunk n b p).length := by omega
    have hpj : p + j < b.length := by omega
    obtain ⟨y, hy⟩ : ∃ y, y = (chunk n b p)[j] := ⟨_, rfl⟩
    have HRD : Aside0 (rd b ((p + j : Nat) : Int) = y) := ⟨by rw [rd_nat b (p + j) hpj, hy, chunk_get n b p j hp (by omega)]⟩
    rw [drop_cons _ j hlt, ← hy]
    clear hy
    constructor
    · intro h
      rw [decA] at h
      rw [Ev_succ]
      simp only [standstillref07_Letters.l1, Ev_ite, Ev_some, Ev_none]
      rw [wrap_addn p j (by omega), HRD.out, if_pos (by omega), if_pos (by omega), if_pos (by omega)]
      by_cases h1 : y = 1
      · rw [if_pos h1] at h
        rw [if_pos h1, Ev_succ]
        simp only [standstillref07_Letters.j2, Ev_ite, Ev_some, Ev_none]
        rw [if_pos (by decide), wrap_nat j (by omega)]
        exact ihB j h
      · rw [if_neg h1] at h
        rw [if_neg h1, Ev_succ]
        simp only [standstillref07_Letters.j2, Ev_ite, Ev_some, Ev_none]
        rw [if_neg (by decide), wrap_addn p j (by omega), HRD.out, if_pos (by omega), if_pos (by omega)]
        by_cases h0 : y = 0
        · rw [if_pos h0] at h
          rw [if_pos h0, wrap_nat j (by omega)]
          exact ihA h
        · rw [if_neg h0] at h
          rw [if_neg h0]
          exact (hbad h).symm
    · intro t h
      rw [List.all_cons] at h
      have hj2 : ∀ bb : Bool, bb = false → Ev (fun k => standstillref07_Letters.j2 k b (n : Int) acc (p : Int) (t : Int) (j : Int) bb) r := by
        rintro bb rfl
        rw [Ev_succ]
        simp only [standstillref07_Letters.j2, Ev_ite, Ev_some, Ev_none]
        rw [if_neg (by decide), wrap_addn p j (by omega), HRD.out, if_pos (by omega), if_pos (by omega)]
        by_cases h0 : y = 0
        · rw [if_pos h0, wrap_nat j (by omega)]
          rw [decide_eq_true h0, Bool.true_and] at h
          exact ihB t h
        · rw [if_neg h0]
          rw [decide_eq_false h0, Bool.false_and, if_neg (by decide)] at h
          exact (hbad h).symm
      rw [Ev_succ]
      simp only [standstillref07_Letters.l1, Ev_ite, Ev_some, Ev_none]
      rw [wrap_addn p j (by omega), HRD.out, if_pos (by omega), if_pos (by omega), if_pos (by omega)]
      split
      · exact hj2 _ (decide_eq_false (by omega))
      · exact hj2 _ rfl
theorem rL_loop (n : Nat) (hn0 : 1 ≤ n) (hn : n ≤ 600) (b : List Int) (hb : b.length ≤ 100000000000) : ∀ (d p : Nat) (acc : List Int), p + d * n = b.length → acc.length ≤ p → Ev (fun k => standstillref07_Letters.l0 k b (n : Int) acc (p : Int)) (refOut (decGo n b d p acc)) := by
  intro d
  induction d with
  | zero =>
    intro p acc hp ha
    rw [Ev_succ]
    simp only [standstillref07_Letters.l0, Ev_ite, Ev_some, Ev_none]
    rw [if_neg (by omega)]
    rfl
  | succ d ih =>
    intro p acc hp ha
    have hp2 : p + n + d * n = b.length := by rw [Nat.add_mul, Nat.one_mul] at hp; omega
    have hpn : p + n ≤ b.length := by omega
    rw [Ev_succ]
    simp only [standstillref07_Letters.l0, Ev_ite, Ev_some, Ev_none]
    rw [if_pos (by omega)]
    refine (rL_one n hn0 hn b hb p acc _ hpn ha ?_ ?_ n 0 (by omega)).1 rfl
    · intro h
      rw [decGo, h]; rfl
    · intro t h
      rw [decGo, h]
      exact ih (p + n) (acc ++ [(t : Int)]) hp2 (by simp; omega)
theorem decGo_flat (n : Nat) (hn0 : 1 ≤ n) : ∀ (q : List Int) (pre : List Int) (acc : List Int), (∀ x ∈ q, 0 ≤ x ∧ x < n) → decGo n (pre ++ (q.map (enc n)).flatten) q.length pre.length acc = some (acc ++ q) := by
  intro q
  induction q with
  | nil => intro pre acc h; simp [decGo]
  | cons x xs ih =>
    intro pre acc h
    obtain ⟨h0, h1⟩ := h x (by simp)
    have hc : chunk n (pre ++ ((x :: xs).map (enc n)).flatten) pre.length = enc n x := by
      have hl : (enc n x).length = n := by simp [enc]
      rw [chunk, List.take_append, List.drop_append]
      simp [List.take_append, hl]
    have hd := decA_enc n x.toNat 0 (by omega)
    have hx : ((x.toNat : Nat) : Int) = x := by omega
    rw [hx, Nat.zero_add] at hd
    rw [List.length_cons, decGo, hc, hd]
    have := ih (pre ++ enc n x) (acc ++ [x]) (fun y hy => h y (by simp [hy]))
    have hl : (enc n x).length = n := by simp [enc]
    rw [List.length_append, hl] at this
    show decGo n _ xs.length (pre.length + n) (acc ++ [((x.toNat : Nat) : Int)]) = _
    rw [hx]
    simpa using this
theorem flat_len (n : Nat) (q : List Int) : ((q.map (enc n)).flatten).length = q.length * n := by
  induction q with
  | nil => simp
  | cons x xs ih => simp [enc, ih, Nat.add_mul, Nat.add_comm]
/-! The cyclic tag system. -/
def wAt (n : Nat) (rules : List (List Int)) (stops : List Bool) (i : Nat) : List Int := if stops.getD i false = true then [] else bitsP n (rules.getD i [])
def wGo (n : Nat) (rules : List (List Int)) (stops : List Bool) : Nat → Nat → List (List Int)
  | 0, _ => []
  | d + 1, i => wAt n rules stops i :: wGo n rules stops d (i + 1)
theorem tc_l1 (m : Nat) (hm : m ≤ 10000) : ∀ (d i : Nat) (acc : List (List Int)), i + d = m → acc.length ≤ 10000 + i → Ev (fun k => tag_ToCyclic.l1 k (m : Int) (i : Int) acc) (acc ++ List.replicate d [], 0) := by
  intro d
  induction d with
  | zero =>
    intro i acc hi ha
    rw [Ev_succ]
    simp only [tag_ToCyclic.l1, Ev_ite, Ev_some, Ev_none]
    rw [if_neg (by omega)]
    simp
  | succ d ih =>
    intro i acc hi ha
    have ih := ih (i + 1) (acc ++ [[]]) (by omega) (by simp; omega)
    rw [Ev_succ]
    simp only [tag_ToCyclic.l1, Ev_ite, Ev_some, Ev_none]
    rw [if_pos (by omega), if_pos (by omega), wrap_nat i (by omega)]
    rw [List.replicate_succ]
    simpa using ih
theorem tc_l0 (D : Int) (rules : List (List Int)) (stops : List Bool) (hv : okT D rules stops = true) : ∀ (d i : Nat) (acc : List (List Int)), i + d = rules.length → acc.length ≤ i → Ev (fun k => tag_ToCyclic.l0 k (rules.length : Int) rules (rules.length : Int) (i : Int) D rules stops acc) (acc ++ wGo rules.length rules stops d i ++ List.replicate ((D - 1).toNat * rules.length) [], 0) := by
  obtain ⟨hD0, hD1, hn0, hn1, hs, hw⟩ := okT_true hv
  intro d
  induction d with
  | zero =>
    intro i acc hi ha
    rw [Ev_succ]
    simp only [tag_ToCyclic.l0, Ev_ite, Ev_some, Ev_none]
    rw [if_neg (by omega)]
    have e1 : wrap64 (D - 1) = ((D - 1).toNat : Int) := by rw [wrap_id (by omega) (by omega)]; omega
    have e3 : (D - 1).toNat * rules.length ≤ 3 * 600 := Nat.mul_le_mul (by omega) (by omega)
    have e2 : wrap64 (((D - 1).toNat : Int) * (rules.length : Int)) = (((D - 1).toNat * rules.length : Nat) : Int) := by
      rw [← Int.natCast_mul, wrap_id (by omega) (by omega)]
    rw [e1, e2, wGo, List.append_nil]
    exact tc_l1 ((D - 1).toNat * rules.length) (by omega) ((D - 1).toNat * rules.length) 0 acc (by omega) (by omega)
  | succ d ih =>
    intro i acc hi ha
    have hlt : i < rules.length := by omega
    have hls : i < stops.length := by omega
    have ih := ih (i + 1) (acc ++ [wAt rules.length rules stops i]) (by omega) (by simp; omega)
    have hst : rdOf false stops (i : Int) = stops.getD i false := rfl
    obtain ⟨hwl, hwx⟩ := hw _ (List.getElem_mem hlt)
    rw [Ev_succ]
    simp only [tag_ToCyclic.l0, Ev_ite, Ev_some, Ev_none]
    rw [if_pos (by omega), if_pos (by omega), if_pos (by omega), if_pos (by omega), rdL rules i hlt, hst, wrap_nat i (by omega)]
    have hwg : wGo rules.length rules stops (d + 1) i = wAt rules.length rules stops i :: wGo rules.length rules stops d (i + 1) := rfl
    have hgo : ∀ v, v = wAt rules.length rules stops i → Ev (fun k => tag_ToCyclic.l0 k (rules.length : Int) rules (rules.length : Int) ((i + 1 : Nat) : Int) D rules stops (acc ++ [v])) (acc ++ wGo rules.length rules stops (d + 1) i ++ List.replicate ((D - 1).toNat * rules.length) [], 0) := by
      rintro v rfl
      rw [hwg]
      simpa using ih
    have hal : acc.length < 5864062014805 := by omega
    by_cases hb : stops.getD i false = true
    · rw [if_pos hb, Ev_bind (tag_bits_ev rules.length [] (by simp) (by simp))]
      simp only [if_pos hal]
      refine hgo _ ?_
      rw [wAt, if_pos hb]
      simp [bitsP, bitsGo]
    · have hmul : rules[i].length * rules.length ≤ 200 * 600 := Nat.mul_le_mul hwl hn1
      rw [if_neg hb, Ev_bind (tag_bits_ev rules.length rules[i] (by omega) hwx)]
      simp only [if_pos hal]
      refine hgo _ ?_
      rw [wAt, if_neg hb, getD_lt rules [] hlt]
def cyc (D : Int) (rules : List (List Int)) (stops : List Bool) : List (List Int) := wGo rules.length rules stops rules.length 0 ++ List.replicate ((D - 1).toNat * rules.length) []
theorem tag_ToCyclic_ev (D : Int) (rules : List (List Int)) (stops : List Bool) : Ev (fun k => tag_ToCyclic.f k D rules stops) (if okT D rules stops = true then (cyc D rules stops, 0) else ([], 1)) := by
  unfold tag_ToCyclic.f
  rw [Ev_bind (tag_Valid_ev D rules stops)]
  simp only [Ev_ite, Ev_some]
  by_cases hv : okT D rules stops = true
  · rw [if_pos hv, if_pos hv]
    have := tc_l0 D rules stops hv rules.length 0 [] (by omega) (by simp)
    simpa [cyc] using this
  · rw [if_neg hv, if_neg hv]
theorem rc_l0 (D : Int) (rules : List (List Int)) (stops : List Bool) (hv : okT D rules stops = true) : ∀ (d i : Nat) (acc : List (List Int)), i + d = D.toNat * rules.length → acc.length ≤ i → Ev (fun k => standstillref07_ToCyclic.l0 k (rules.length : Int) (i : Int) D rules stops acc) (acc ++ wGo rules.length rules stops (rules.length - i) i ++ List.replicate (d - (rules.length - i)) []) := by
  obtain ⟨hD0, hD1, hn0, hn1, hs, hw⟩ := okT_true hv
  have e3 : D.toNat * rules.length ≤ 4 * 600 := Nat.mul_le_mul (by omega) (by omega)
  have e4 : 1 * rules.length ≤ D.toNat * rules.length := Nat.mul_le_mul (by omega) (Nat.le_refl _)
  have e2 : wrap64 (D * (rules.length : Int)) = ((D.toNat * rules.length : Nat) : Int) := by
    have : D = (D.toNat : Int) := by omega
    rw [this, ← Int.natCast_mul, wrap_id (by omega) (by omega), Int.toNat_natCast]
  intro d
  induction d with
  | zero =>
    intro i acc hi ha
    rw [Ev_succ]
    simp only [standstillref07_ToCyclic.l0, Ev_ite, Ev_some, Ev_none]
    rw [e2, if_neg (by omega)]
    have : rules.length - i = 0 := by omega
    rw [this]
    simp [wGo]
  | succ d ih =>
    intro i acc hi ha
    have hal : acc.length < 5864062014805 := by omega
    rw [Ev_succ]
    simp only [standstillref07_ToCyclic.l0, Ev_ite, Ev_some, Ev_none]
    rw [e2, if_pos (by omega), wrap_nat i (by omega)]
    simp only [if_pos hal]
    by_cases hlt : i < rules.length
    · have hls : i < stops.length := by omega
      have hst : rdOf false stops (i : Int) = stops.getD i false := rfl
      obtain ⟨hwl, hwx⟩ := hw _ (List.getElem_mem hlt)
      have ih := ih (i + 1) (acc ++ [wAt rules.length rules stops i]) (by omega) (by simp; omega)
      rw [if_pos (by omega), if_pos (by omega), if_pos (by omega), hst, rdL rules i hlt]
      have hwg : wGo rules.length rules stops (rules.length - i) i = wAt rules.length rules stops i :: wGo rules.length rules stops (rules.length - (i + 1)) (i + 1) := by
        rw [show rules.length - i = (rules.length - (i + 1)) + 1 by omega]; rfl
      have hcn : d + 1 - (rules.length - i) = d - (rules.length - (i + 1)) := by omega
      have hgo : ∀ v, v = wAt rules.length rules stops i → Ev (fun k => standstillref07_ToCyclic.l0 k (rules.length : Int) ((i + 1 : Nat) : Int) D rules stops (acc ++ [v])) (acc ++ wGo rules.length rules stops (rules.length - i) i ++ List.replicate (d + 1 - (rules.length - i)) []) := by
        rintro v rfl
        rw [hwg, hcn]
        simpa using ih
      by_cases hb : stops.getD i false = true
      · rw [if_pos hb]
        refine hgo _ ?_
        rw [wAt, if_pos hb]
      · have hmul : rules[i].length * rules.length ≤ 200 * 600 := Nat.mul_le_mul hwl hn1
        rw [if_neg hb, if_pos (by omega), Ev_bind (ref_Bits_ev rules.length rules[i] (by omega) hwx)]
        refine hgo _ ?_
        rw [wAt, if_neg hb, getD_lt rules [] hlt]
    · have ih := ih (i + 1) (acc ++ [[]]) (by omega) (by simp; omega)
      rw [if_neg (by omega)]
      have h1 : rules.length - i = 0 := by omega
      have h2 : rules.length - (i + 1) = 0 := by omega
      rw [h2] at ih
      rw [h1]
      rw [Nat.sub_zero, List.replicate_succ]
      simpa [wGo] using ih
theorem ref_ToCyclic_ev (D : Int) (rules : List (List Int)) (stops : List Bool) (hv : okT D rules stops = true) : Ev (fun k => standstillref07_ToCyclic.f k D rules stops) (cyc D rules stops) := by
  obtain ⟨hD0, hD1, hn0, hn1, hs, hw⟩ := okT_true hv
  have := rc_l0 D rules stops hv (D.toNat * rules.length) 0 [] (by omega) (by simp)
  have e : D.toNat * rules.length - (rules.length - 0) = (D - 1).toNat * rules.length := by
    have : D.toNat = (D - 1).toNat + 1 := by omega
    rw [this, Nat.add_mul, Nat.one_mul]; omega
  rw [e, List.nil_append, Nat.sub_zero] at this
  exact this
theorem cyc_small (D : Int) (rules : List (List Int)) (stops : List Bool) (hv : okT D rules stops = true) : (cyc D rules stops).length ≤ 10000 ∧ ∀ w ∈ cyc D rules stops, w.length ≤ 1000000 := by
  obtain ⟨hD0, hD1, hn0, hn1, hs, hw⟩ := okT_true hv
  have e3 : (D - 1).toNat * rules.length ≤ 3 * 600 := Nat.mul_le_mul (by omega) (by omega)
  have hA : ∀ i, (wAt rules.length rules stops i).length ≤ 1000000 := by
    intro i
    rw [wAt]
    split
    · simp
    · rcases Nat.lt_or_ge i rules.length with h | h
      · rw [getD_lt rules [] h]
        obtain ⟨hwl, hwx⟩ := hw _ (List.getElem_mem h)
        rw [bitsP_flat _ _ hwx, flat_len]
        have := Nat.mul_le_mul hwl hn1
        omega
      · have : rules.getD i [] = [] := by simp [List.getD_eq_getElem?_getD, h]
        rw [this]; simp [bitsP, bitsGo]
  have hG : ∀ d i, (wGo rules.length rules stops d i).length = d ∧ ∀ w ∈ wGo rules.length rules stops d i, w.length ≤ 1000000 := by
    intro d
    induction d with
    | zero => intro i; simp [wGo]
    | succ d ih =>
      intro i
      obtain ⟨h1, h2⟩ := ih (i + 1)
      refine ⟨by simp [wGo, h1], ?_⟩
      intro w hw
      rcases List.mem_cons.1 hw with h | h
      · rw [h]; exact hA i
      · exact h2 w h
  obtain ⟨h1, h2⟩ := hG rules.length 0
  refine ⟨by rw [cyc, List.length_append, h1, List.length_replicate]; omega, ?_⟩
  intro w hw
  rcases List.mem_append.1 hw with h | h
  · exact h2 w h
  · rw [(List.mem_replicate.1 h).2]; simp
theorem SameCyclic_refl (c : List (List Int)) (hc : c.length ≤ 10000) (hw : ∀ w ∈ c, w.length ≤ 1000000) : Ev (fun k => standstillref07_SameCyclic.f k c c) true := by
  have loop : ∀ (d i : Nat), i + d = c.length → Ev (fun k => standstillref07_SameCyclic.l0 k (i : Int) c c) true := by
    intro d
    induction d with
    | zero =>
      intro i hi
      rw [Ev_succ]
      simp only [standstillref07_SameCyclic.l0, Ev_ite, Ev_some, Ev_none]
      rw [if_neg (by omega)]
      trivial
    | succ d ih =>
      intro i hi
      have hlt : i < c.length := by omega
      rw [Ev_succ]
      simp only [standstillref07_SameCyclic.l0, Ev_ite, Ev_some, Ev_none]
      rw [if_pos (by omega), if_pos (by omega), if_pos (by omega), rdL c i hlt]
      have := hw _ (List.getElem_mem hlt)
      rw [Ev_bind (Same_ev c[i] c[i] (by omega))]
      simp only [Ev_ite, Ev_some]
      rw [if_pos (by simp), wrap_nat i (by omega)]
      exact ih (i + 1) (by omega)
  unfold standstillref07_SameCyclic.f
  simp only [Ev_ite, Ev_some]
  rw [if_pos trivial]
  exact loop c.length 0 (by omega)
theorem rules_ev (D : Int) (rules : List (List Int)) (stops : List Bool) (hn : rules.length ≤ 600) : ∃ v, Ev (fun k => standstilllaw07_rules.f k D rules stops) v := by
  have loop : ∀ (d i : Nat) (a : Int), i + d = rules.length → ∃ v, Ev (fun k => standstilllaw07_rules.l0 k a (i : Int) D rules stops) v := by
    intro d
    induction d with
    | zero =>
      intro i a hi
      refine ⟨a, ?_⟩
      rw [Ev_succ]
      simp only [standstilllaw07_rules.l0, Ev_ite, Ev_some, Ev_none]
      rw [if_neg (by omega)]
      trivial
    | succ d ih =>
      intro i a hi
      obtain ⟨v, hv⟩ := ih (i + 1) (wrap64 (a + (wrap64 (((rd_L1 rules i).length : Int) * (rules.length : Int))))) (by omega)
      refine ⟨v, ?_⟩
      rw [Ev_succ]
      simp only [standstilllaw07_rules.l0, Ev_ite, Ev_some, Ev_none]
      rw [if_pos (by omega), if_pos (by omega), wrap_nat i (by omega)]
      exact hv
  exact loop rules.length 0 0 (by omega)
theorem wide_ev (D : Int) (rules : List (List Int)) (stops : List Bool) (q : List Int) : ∃ v, Ev (fun k => standstilllaw07_wide.f k D rules stops q) v ∧ (v = false → rules.length ≤ 700) := by
  have loop : ∀ (d i : Nat) (a : Int), i + d = rules.length → i ≤ 701 → ∃ v, Ev (fun k => standstilllaw07_wide.l0 k a (i : Int) D rules stops) v ∧ (v = false → rules.length ≤ 700) := by
    intro d
    induction d with
    | zero =>
      intro i a hi h7
      refine ⟨if a > 20000 then true else decide ((rules.length : Int) > 700), ?_, ?_⟩
      · rw [Ev_succ]
        simp only [standstilllaw07_wide.l0, Ev_ite, Ev_some, Ev_none]
        rw [if_neg (by omega)]
        split <;> rfl
      · split
        · intro h; cases h
        · intro h; have := of_decide_eq_false h; omega
    | succ d ih =>
      intro i a hi h7
      by_cases h : i ≤ 700
      · obtain ⟨v, hv, hv2⟩ := ih (i + 1) (wrap64 (a + ((rd_L1 rules i).length : Int))) (by omega) (by omega)
        refine ⟨v, ?_, hv2⟩
        rw [Ev_succ]
        simp only [standstilllaw07_wide.l0, Ev_ite, Ev_some, Ev_none]
        rw [if_pos (by omega), if_pos (by omega), if_pos (by omega), wrap_nat i (by omega)]
        exact hv
      · refine ⟨true, ?_, fun h => by cases h⟩
        rw [Ev_succ]
        simp only [standstilllaw07_wide.l0, Ev_ite, Ev_some, Ev_none]
        rw [if_pos (by omega), if_neg (by omega)]
        split
        · trivial
        · exact decide_eq_true (by omega)
  exact loop rules.length 0 _ (by omega) (by omega)
theorem awake_true : Ev (fun k => standstilllaw07_awake.f k) true := Ev.of (k := 60) standstilllaw07_awake.mono (by decide +kernel)

theorem wide_bits {n l : Nat} (hn : n ≤ 600) (hl : l ≤ 17592186044404) : wrap64 ((l : Int) * (n : Int)) = ((l * n : Nat) : Int) := by
  have h : l * n ≤ 17592186044404 * 600 := Nat.mul_le_mul hl hn
  rw [← Int.natCast_mul, wrap_id (by omega) (by omega)]
def bitsOut (D : Int) (rules : List (List Int)) (stops : List Bool) (q : List Int) : List Int × Int := if okQ D rules stops q = true then (if ((q.length * rules.length : Nat) : Int) > 1000000 then ([], 4) else (bitsP rules.length q, 0)) else ([], 1)
theorem tag_Bits_ev (D : Int) (rules : List (List Int)) (stops : List Bool) (q : List Int) : Ev (fun k => tag_Bits.f k D rules stops q) (bitsOut D rules stops q) := by
  unfold tag_Bits.f bitsOut
  rw [Ev_bind (tag_Fits_ev D rules stops q)]
  simp only [Ev_ite, Ev_some]
  by_cases hv : okQ D rules stops q = true
  · obtain ⟨hT, hq, hx⟩ := okQ_true hv
    obtain ⟨_, _, _, hn1, _⟩ := okT_true hT
    rw [if_pos hv, if_pos hv, wide_bits hn1 (by omega)]
    by_cases hb : ((q.length * rules.length : Nat) : Int) > 1000000
    · rw [if_pos hb, if_pos hb]
    · rw [if_neg hb, if_neg hb]
      have hbn : q.length * rules.length ≤ 1000000 := by omega
      rw [Ev_bind (tag_bits_ev rules.length q (Nat.le_trans hbn (by omega)) hx), Ev_some]
  · rw [if_neg hv, if_neg hv]
def letOut (D : Int) (rules : List (List Int)) (stops : List Bool) (b : List Int) : List Int × Int := if okT D rules stops = true then (if (b.length : Int) % (rules.length : Int) = 0 then tagOut (decGo rules.length b (b.length / rules.length) 0 []) else ([], 2)) else ([], 1)
theorem div_back {b n : Nat} (h : (b : Int) % (n : Int) = 0) : 0 + b / n * n = b := by
  have h : b % n = 0 := by omega
  rw [Nat.zero_add]
  exact Nat.div_mul_cancel (Nat.dvd_of_mod_eq_zero h)
theorem tag_Letters_ev (D : Int) (rules : List (List Int)) (stops : List Bool) (b : List Int) (hb : b.length ≤ 100000000000) : Ev (fun k => tag_Letters.f k D rules stops b) (letOut D rules stops b) := by
  unfold tag_Letters.f letOut
  rw [Ev_bind (tag_Valid_ev D rules stops)]
  simp only [Ev_ite, Ev_some, Ev_none]
  by_cases hv : okT D rules stops = true
  · obtain ⟨_, _, hn0, hn1, _⟩ := okT_true hv
    rw [if_pos hv, if_pos hv, if_neg (by omega)]
    by_cases hm : (b.length : Int) % (rules.length : Int) = 0
    · rw [if_pos hm, if_pos hm]
      exact tL_loop rules.length hn0 hn1 b hb (b.length / rules.length) 0 [] (div_back hm) (by simp)
    · rw [if_neg hm, if_neg hm]
  · rw [if_neg hv, if_neg hv]
theorem ref_Letters_ev (n : Nat) (hn0 : 1 ≤ n) (hn1 : n ≤ 600) (b : List Int) (hb : b.length ≤ 100000000000) : Ev (fun k => standstillref07_Letters.f k b (n : Int)) (if (b.length : Int) % (n : Int) = 0 then refOut (decGo n b (b.length / n) 0 []) else ([], false)) := by
  unfold standstillref07_Letters.f
  simp only [Ev_ite, Ev_some, Ev_none]
  rw [if_neg (by omega)]
  by_cases hm : (b.length : Int) % (n : Int) = 0
  · rw [if_pos hm, if_pos hm]
    exact rL_loop n hn0 hn1 b hb (b.length / n) 0 [] (div_back hm) (by simp)
  · rw [if_neg hm, if_neg hm]
theorem decGo_len (n : Nat) (b : List Int) : ∀ (d p : Nat) (acc r : List Int), decGo n b d p acc = some r → r.length = acc.length + d := by
  intro d
  induction d with
  | zero =>
    intro p acc r h
    rw [decGo] at h
    injection h with h
    rw [h]; rfl
  | succ d ih =>
    intro p acc r h
    rw [decGo] at h
    cases hd : decA (chunk n b p) 0 with
    | none => rw [hd] at h; cases h
    | some t =>
      rw [hd] at h
      have := ih (p + n) (acc ++ [(t : Int)]) r h
      rw [this]
      simp; omega
theorem back_ev (D : Int) (rules : List (List Int)) (stops : List Bool) (q : List Int) (hv : okQ D rules stops q = true) : letOut D rules stops (bitsP rules.length q) = (q, 0) := by
  obtain ⟨hT, hq, hx⟩ := okQ_true hv
  obtain ⟨_, _, hn0, hn1, _⟩ := okT_true hT
  have hl : (bitsP rules.length q).length = q.length * rules.length := by rw [bitsP_flat _ _ hx, flat_len]
  have hm : (((bitsP rules.length q).length : Nat) : Int) % (rules.length : Int) = 0 := by
    rw [hl, Int.natCast_mul]
    exact Int.mul_emod_left _ _
  rw [letOut, if_pos hT, if_pos hm, hl, Nat.mul_div_cancel _ (by omega), bitsP_flat _ _ hx]
  have := decGo_flat rules.length hn0 q [] [] hx
  rw [List.nil_append, List.nil_append] at this
  rw [show (0 : Nat) = ([] : List Int).length from rfl, this]
  rfl
theorem tc_j2 (D : Int) (rules : List (List Int)) (stops : List Bool) (q : List Int) (hT : okT D rules stops = true) (hql : q.length ≤ 17592186044404) :
    Ev (fun k => standstilllaw07_TagCodes.j2 k q (bitsOut D rules stops q).1 (bitsOut D rules stops q).2 D rules stops) true := by
  obtain ⟨_, _, hn0, hn1, _⟩ := okT_true hT
  rw [Ev_succ]
  simp only [standstilllaw07_TagCodes.j2]
  rw [Ev_bind (ref_Fits_ev D rules stops q)]
  simp only [Ev_ite, Ev_some, Ev_none]
  by_cases hv : okQ D rules stops q = true
  · obtain ⟨_, hq, hx⟩ := okQ_true hv
    rw [if_pos hv, wide_bits hn1 hql, bitsOut, if_pos hv]
    by_cases hb : ((q.length * rules.length : Nat) : Int) > 1000000
    · rw [if_pos hb, if_pos hb, if_pos rfl, if_pos (by simp), Ev_bind awake_true, Ev_some]
    · rw [if_neg hb, if_neg hb]
      have hbn : q.length * rules.length ≤ 1000000 := by omega
      have hl : (bitsP rules.length q).length = q.length * rules.length := by rw [bitsP_flat _ _ hx, flat_len]
      rw [Ev_bind (tag_Letters_ev D rules stops (bitsP rules.length q) (by omega)), back_ev D rules stops q hv]
      simp only [Ev_ite, Ev_some, Ev_none]
      rw [if_pos trivial, Ev_bind (ref_Bits_ev rules.length q (Nat.le_trans hbn (by omega)) hx), Ev_bind (Same_ev (bitsP rules.length q) (bitsP rules.length q) (by omega))]
      simp only [Ev_ite, Ev_some, Ev_none]
      rw [if_pos (by simp), if_pos trivial, Ev_bind (Same_ev q q (by omega))]
      simp only [Ev_ite, Ev_some, Ev_none]
      rw [if_pos (by simp), Ev_bind awake_true, Ev_some]
  · rw [if_neg hv, bitsOut, if_neg hv, if_pos rfl, if_pos (by simp), Ev_bind awake_true, Ev_some]
theorem tc_j1 (D : Int) (rules : List (List Int)) (stops : List Bool) (q : List Int) (hT : okT D rules stops = true) (hql : q.length ≤ 17592186044404) (bb : Bool) (hbb : bb = false) :
    Ev (fun k => standstilllaw07_TagCodes.j1 k q (bitsOut D rules stops q).1 (bitsOut D rules stops q).2 bb D rules stops) true := by
  subst hbb
  obtain ⟨_, _, hn0, hn1, _⟩ := okT_true hT
  obtain ⟨v, hv⟩ := rules_ev D rules stops hn1
  rw [Ev_succ]
  simp only [standstilllaw07_TagCodes.j1, Ev_ite, Ev_some, Ev_none]
  rw [if_neg (by decide), Ev_bind hv]
  simp only [Ev_ite, Ev_some, Ev_none]
  by_cases h3 : v ≤ 300000
  · rw [if_pos h3, Ev_bind (tag_ToCyclic_ev D rules stops), if_pos hT]
    simp only [Ev_ite, Ev_some, Ev_none]
    obtain ⟨c1, c2⟩ := cyc_small D rules stops hT
    rw [if_pos trivial, Ev_bind (ref_ToCyclic_ev D rules stops hT), Ev_bind (SameCyclic_refl _ c1 c2)]
    simp only [Ev_ite, Ev_some, Ev_none]
    rw [if_pos trivial]
    exact tc_j2 D rules stops q hT hql
  · rw [if_neg h3]
    exact tc_j2 D rules stops q hT hql
theorem TagCodes : standstilllaw07_TagCodes.Pure := by
  intro D rules stops q b h0 h1 h2 h3 h4
  suffices h : Ev (fun k => standstilllaw07_TagCodes.f k D rules stops q b) true by
    obtain ⟨K, h⟩ := h
    exact ⟨K, h K (Nat.le_refl _)⟩
  have hql : q.length ≤ 17592186044404 := by have := h3.1; omega
  have hj : ∀ bb, (bb = false → b.length ≤ 300000) → Ev (fun k => standstilllaw07_TagCodes.j0 k q b bb D rules stops) true := by
    intro bb hbb
    rw [Ev_succ]
    simp only [standstilllaw07_TagCodes.j0, Ev_ite]
    cases bb with
    | true => rw [if_pos rfl, Ev_bind awake_true, Ev_some]
    | false =>
      have hb := hbb rfl
      rw [if_neg (by decide), Ev_bind (tag_Bits_ev D rules stops q), Ev_bind (tag_Letters_ev D rules stops b (by omega)), Ev_bind (ref_Valid_ev D rules stops)]
      simp only [Ev_ite]
      by_cases hT : okT D rules stops = true
      · obtain ⟨_, _, hn0, hn1, _⟩ := okT_true hT
        rw [if_pos hT, Ev_bind (ref_Letters_ev rules.length hn0 hn1 b (by omega)), letOut, if_pos hT]
        simp only [Ev_ite]
        by_cases hm : (b.length : Int) % (rules.length : Int) = 0
        · rw [if_pos hm, if_pos hm]
          cases hd : decGo rules.length b (b.length / rules.length) 0 [] with
          | none =>
            simp only [tagOut, refOut]
            rw [if_neg (by decide), if_neg (by decide), if_pos trivial, Ev_bind (Same_ev [] [] (by simp))]
            exact tc_j1 D rules stops q hT hql _ (by decide)
          | some l =>
            have hl := decGo_len _ _ _ _ _ _ hd
            have hdl : b.length / rules.length ≤ b.length := Nat.div_le_self _ _
            simp only [tagOut, refOut]
            rw [if_neg (by decide), if_pos trivial, Ev_bind (Same_ev l l (by simp at hl; omega))]
            exact tc_j1 D rules stops q hT hql _ (by simp)
        · rw [if_neg hm, if_neg hm]
          simp only []
          rw [if_neg (by decide), if_neg (by decide), if_pos trivial, Ev_bind (Same_ev [] [] (by simp))]
          exact tc_j1 D rules stops q hT hql _ (by decide)
      · rw [if_neg hT, Ev_bind (tag_ToCyclic_ev D rules stops), if_neg hT, letOut, if_neg hT]
        have hQ : ¬ okQ D rules stops q = true := fun h => hT (okQ_true h).1
        rw [bitsOut, if_neg hQ]
        simp only [Ev_ite, Ev_some]
        rw [if_pos trivial, if_pos trivial, if_pos trivial, if_pos (by decide +kernel), Ev_bind awake_true, Ev_some]
  unfold standstilllaw07_TagCodes.f
  obtain ⟨v, hv, _⟩ := wide_ev D rules stops q
  rw [Ev_bind hv]
  simp only [Ev_ite]
  split
  · exact hj true (fun h => by cases h)
  · split
    · exact hj true (fun h => by cases h)
    · exact hj _ (fun _ => by omega)

end Go.Proofs.Ytkinnaegedbanaa.Pure
