/- The plain law of PairCodes: Encode and Decode answer as the reference says, and Decode of Encode are the contents. No condition beyond what every argument has. -/
import Derived.Test.YtkbekdjoaibhbaaAid
import Derived.Test.YtkbekdjoaibhbaaPPairCodesx12
namespace Go.Proofs.Ytkbekdjoaibhbaa.Pure
open Go.RowKit Go.Proofs.Ytkbekdjoaibhbaa.PPairCodes Go.Proofs.YtkbekdjoaibhbaaW.PrintWords Go.Proofs.YtkbekdjoaibhbaaW.PrintLast Go.Proofs.YtkbekdjoaibhbaaW.PrintMore Go.Proofs.YtkbekdjoaibhbaaAid
set_option linter.unusedVariables false
set_option linter.unusedSimpArgs false

theorem sameCount_loop (q q' : Int) (l : List Int) (hl : l.length ≤ 100000) : ∀ (d i : Nat), i + d = l.length → Ev (fun k => standstillref06_SameCount.l0 k (i : Int) q l q' l) true := by
  intro d
  induction d with
  | zero =>
    intro i hi
    rw [Ev_succ]
    simp only [standstillref06_SameCount.l0, Ev_ite, Ev_none]
    rw [if_neg (by omega)]
    exact Ev.now _
  | succ d ih =>
    intro i hi
    have ih := ih (i + 1) (by omega)
    rw [Ev_succ]
    simp only [standstillref06_SameCount.l0, Ev_ite, Ev_none]
    rw [if_pos (by omega), if_pos (by omega), if_pos (by omega), if_pos trivial, wrap_id (by omega) (by omega)]
    exact ih
theorem sameCount_refl (p : Int) (l : List Int) (hl : l.length ≤ 100000) : Ev (fun k => standstillref06_SameCount.f k p l p l) true := by
  unfold standstillref06_SameCount.f
  simp only [if_true]
  rw [Ev_succ]
  simp only [standstillref06_SameCount.j0, Ev_ite]
  rw [if_neg (by simp)]
  exact sameCount_loop p p l hl l.length 0 (by omega)
theorem awake_ev : Ev (fun k => standstilllaw08_awake.f k) true := Ev.of (k := 200) standstilllaw08_awake.mono (by decide +kernel)
theorem awake_b : Ev (fun k => (standstilllaw08_awake.f k).bind fun t => some t) true := by
  rw [Ev_bind awake_ev]
  exact Ev.now _

def P6 : List Int := [2, 3, 5, 7, 11, 13]
theorem p6_ge {i : Nat} (h : i < 6) : 2 ≤ rd P6 (i : Int) ∧ rd P6 (i : Int) ≤ 13 := by
  rcases (by omega : i = 0 ∨ i = 1 ∨ i = 2 ∨ i = 3 ∨ i = 4 ∨ i = 5) with rfl | rfl | rfl | rfl | rfl | rfl <;> decide
def mulP (q : Int) : Nat → Int → Option Int
  | 0, n => some n
  | c + 1, n => if n > wrap64 (Int.tdiv (1152921504606846976 : Int) q) then none else mulP q c (wrap64 (n * q))
def encG (x : List Int) : Nat → Nat → Int → Option Int
  | 0, _, n => some n
  | d + 1, i, n => (mulP (rd P6 (i : Int)) (rd x (i : Int)).toNat n).bind (encG x d (i + 1))
def outE : Option Int → Int × Int
  | none => (0, 4)
  | some v => (v, 0)
def outR : Option Int → Int × Bool
  | none => (0, false)
  | some v => (v, true)
theorem cast_succ (i : Nat) (h : i ≤ 1000000000) : wrap64 ((i : Int) + 1) = ((i + 1 : Nat) : Int) := by
  rw [wrap_id (by omega) (by omega)]
  push_cast
  rfl
theorem pe_l1 (x ps : List Int) (L : Int) (i : Nat) (q R : Int) (hq : q ≠ 0) (hR : R ≤ 9223372036854775807) (d : Nat) (hi : i ≤ 1000000000) (ih : ∀ n, Ev (fun k => pair_Encode.l0 k x n ps L ((i + 1 : Nat) : Int)) (outE (encG x d (i + 1) n))) : ∀ (c : Nat) (j : Int) (n : Int), 0 ≤ j → (R - j).toNat = c → Ev (fun k => pair_Encode.l1 k x n q ps L (i : Int) R j) (outE ((mulP q c n).bind (encG x d (i + 1)))) := by
  intro c
  induction c with
  | zero =>
    intro j n hj hc
    rw [Ev_succ]
    simp only [pair_Encode.l1]
    simp only [if_neg (show ¬ j < R by omega), mulP, Option.bind_some, cast_succ i hi]
    exact ih n
  | succ c ihc =>
    intro j n hj hc
    rw [Ev_succ]
    simp only [pair_Encode.l1]
    simp only [if_pos (show j < R by omega), if_neg hq, mulP]
    by_cases hm : n > wrap64 (Int.tdiv (1152921504606846976 : Int) q)
    · simp only [if_pos hm, Option.bind_none]
      exact Ev.now _
    · simp only [if_neg hm]
      rw [wrap_id (x := j + 1) (by omega) (by omega)]
      exact ihc (j + 1) _ (by omega) (by omega)
theorem pe_l0 (x ps : List Int) (hps : ∀ i : Nat, i < ps.length → rd ps (i : Int) = rd P6 (i : Int)) (hl : x.length ≤ 6) (hL : ps.length = x.length) (hw : ∀ v ∈ x, (Lit.int .i64 v).wf = true) : ∀ (d i : Nat), i + d = x.length → ∀ n, Ev (fun k => pair_Encode.l0 k x n ps (ps.length : Int) (i : Int)) (outE (encG x d i n)) := by
  intro d
  induction d with
  | zero =>
    intro i hi n
    rw [Ev_succ]
    simp only [pair_Encode.l0]
    simp only [if_neg (show ¬ (i : Int) < (ps.length : Int) by omega), encG]
    exact Ev.now _
  | succ d ih =>
    intro i hi n
    rw [Ev_succ]
    simp only [pair_Encode.l0]
    simp only [if_pos (show (i : Int) < (ps.length : Int) by omega), if_pos (show (0 : Int) ≤ (i : Int) by omega), if_pos (show (i : Int) < (x.length : Int) by omega), encG, hps i (by omega)]
    have hR : rd x (i : Int) ≤ 9223372036854775807 := by
      rw [rd_nat x i (by omega)]
      exact (wf_i64 (hw _ (List.getElem_mem _))).2
    have hp := p6_ge (i := i) (by omega)
    have h := pe_l1 x ps (ps.length : Int) i (rd P6 (i : Int)) (rd x (i : Int)) (by omega) hR d (by omega) (fun n => ih (i + 1) (by omega) n) (rd x (i : Int)).toNat 0 n (by omega) (by omega)
    exact h
def okR (x : List Int) : Prop := 1 ≤ x.length ∧ x.length ≤ 6 ∧ ∀ v ∈ x, 0 ≤ v
theorem min_le (x : List Int) : ∀ (d i : Nat) (m : Int), i + d = x.length → (lminGo x d (i : Int) m < 0 ↔ m < 0 ∨ ∃ j, i ≤ j ∧ j < x.length ∧ rd x (j : Int) < 0) := by
  intro d
  induction d with
  | zero =>
    intro i m hi
    simp only [lminGo]
    constructor
    · exact fun h => .inl h
    · rintro (h | ⟨j, h1, h2, -⟩)
      · exact h
      · omega
  | succ d ih =>
    intro i m hi
    simp only [lminGo]
    have h := ih (i + 1) (if rd x (i : Int) < m then rd x (i : Int) else m) (by omega)
    rw [show (((i + 1 : Nat)) : Int) = (i : Int) + 1 by push_cast; rfl] at h
    rw [h]
    constructor
    · rintro (h | ⟨j, h1, h2, h3⟩)
      · split at h
        · exact .inr ⟨i, Nat.le_refl _, by omega, h⟩
        · exact .inl h
      · exact .inr ⟨j, by omega, h2, h3⟩
    · rintro (h | ⟨j, h1, h2, h3⟩)
      · left
        split <;> omega
      · by_cases e : j = i
        · subst e
          left
          split <;> omega
        · exact .inr ⟨j, by omega, h2, h3⟩
theorem slmin_ev (x : List Int) (h1 : 1 ≤ x.length) (h2 : x.length ≤ 100) : ∃ m, slices_Min_int_int.f x = some m ∧ (m < 0 ↔ ∃ v ∈ x, v < 0) := by
  refine ⟨_, if_pos ⟨h1, by omega⟩, ?_⟩
  have h := min_le x (x.length - 1) 1 (rd x 0) (by omega)
  refine h.trans ?_
  constructor
  · rintro (h | ⟨j, -, hj, h⟩)
    · refine ⟨x[0], List.getElem_mem _, ?_⟩
      have := rd_nat x 0 (by omega)
      rw [← this]
      exact h
    · refine ⟨x[j], List.getElem_mem _, ?_⟩
      rw [← rd_nat x j hj]
      exact h
  · rintro ⟨v, hv, hlt⟩
    obtain ⟨j, hj, rfl⟩ := List.getElem_of_mem hv
    by_cases e : j = 0
    · subst e
      left
      have := rd_nat x 0 (by omega)
      have h0 : rd x 0 = x[0] := this
      rw [h0]
      exact hlt
    · right
      exact ⟨j, by omega, hj, by rw [rd_nat x j hj]; exact hlt⟩
/-- What Encode answers. -/
theorem Encode_ev (x : List Int) (h2 : x.length ≤ 100) (hw : ∀ v ∈ x, (Lit.int .i64 v).wf = true) : (okR x → Ev (fun k => pair_Encode.f k x) (outE (encG x x.length 0 1))) ∧ (¬ okR x → Ev (fun k => pair_Encode.f k x) (0, 2)) := by
  have J : Ev (fun k => pair_Encode.j0 k x true) (0, 2) := by
    rw [Ev_succ]
    simp only [pair_Encode.j0, if_true]
    exact Ev.now _
  unfold pair_Encode.f
  by_cases a : (x.length : Int) < 1
  · simp only [if_pos a]
    exact ⟨fun h => by have := h.1; omega, fun _ => J⟩
  by_cases b : (x.length : Int) > 6
  · simp only [if_neg a, if_pos b]
    exact ⟨fun h => by have := h.2.1; omega, fun _ => J⟩
  obtain ⟨m, hm, hmin⟩ := slmin_ev x (by omega) h2
  simp only [if_neg a, if_neg b, hm, Option.bind_some]
  by_cases c : m < 0
  · rw [decide_eq_true c]
    refine ⟨fun h => ?_, fun _ => J⟩
    obtain ⟨v, hv, hn⟩ := hmin.1 c
    have := h.2.2 v hv
    omega
  · rw [decide_eq_false c]
    refine ⟨fun _ => ?_, fun h => absurd ⟨by omega, by omega, fun v hv => by
      by_cases hn : v < 0
      · exact absurd (hmin.2 ⟨v, hv, hn⟩) c
      · omega⟩ h⟩
    rw [Ev_succ]
    have hlen : (P6.take x.length).length = x.length := by
      rw [List.length_take]
      have : P6.length = 6 := rfl
      omega
    simp only [pair_Encode.j0, Bool.false_eq_true, if_false, pair_primes.f, Option.bind_some, Int.toNat_natCast]
    rw [show ([2, 3, 5, 7, 11, 13] : List Int) = P6 from rfl]
    simp only [if_pos (show (0 : Int) ≤ (x.length : Int) by omega), if_pos (show (x.length : Int) ≤ (P6.length : Int) by have : P6.length = 6 := rfl; omega)]
    refine pe_l0 x (P6.take x.length) (fun i hi => ?_) (by omega) hlen hw x.length 0 (by omega) 1
    rw [hlen] at hi
    have h6 : P6.length = 6 := rfl
    rw [rd_nat _ i (by omega), rd_nat P6 i (by omega), List.getElem_take]
theorem re_l1 (x : List Int) (i : Nat) (q : Int) (hq : q ≠ 0) (hx : i < x.length) (hR : rd x (i : Int) ≤ 9223372036854775807) (d : Nat) (hi : i ≤ 1000000000) (ih : ∀ n, Ev (fun k => standstillref08_Encode.l0 k x n ((i + 1 : Nat) : Int)) (outR (encG x d (i + 1) n))) : ∀ (c : Nat) (j : Int) (n : Int), 0 ≤ j → (rd x (i : Int) - j).toNat = c → Ev (fun k => standstillref08_Encode.l1 k x n (i : Int) q j) (outR ((mulP q c n).bind (encG x d (i + 1)))) := by
  intro c
  induction c with
  | zero =>
    intro j n hj hc
    rw [Ev_succ]
    simp only [standstillref08_Encode.l1]
    simp only [if_pos (show (0 : Int) ≤ (i : Int) by omega), if_pos (show (i : Int) < (x.length : Int) by omega), if_neg (show ¬ j < rd x (i : Int) by omega), mulP, Option.bind_some, cast_succ i hi]
    exact ih n
  | succ c ihc =>
    intro j n hj hc
    rw [Ev_succ]
    simp only [standstillref08_Encode.l1]
    simp only [if_pos (show (0 : Int) ≤ (i : Int) by omega), if_pos (show (i : Int) < (x.length : Int) by omega), if_pos (show j < rd x (i : Int) by omega), if_neg hq, mulP]
    by_cases hm : n > wrap64 (Int.tdiv (1152921504606846976 : Int) q)
    · simp only [if_pos hm, Option.bind_none]
      exact Ev.now _
    · simp only [if_neg hm]
      rw [wrap_id (x := j + 1) (by omega) (by omega)]
      exact ihc (j + 1) _ (by omega) (by omega)
theorem re_l0 (x : List Int) (hl : x.length ≤ 6) (hw : ∀ v ∈ x, (Lit.int .i64 v).wf = true) : ∀ (d i : Nat), i + d = x.length → ∀ n, Ev (fun k => standstillref08_Encode.l0 k x n (i : Int)) (outR (encG x d i n)) := by
  intro d
  induction d with
  | zero =>
    intro i hi n
    rw [Ev_succ]
    simp only [standstillref08_Encode.l0]
    simp only [if_neg (show ¬ (i : Int) < (x.length : Int) by omega), encG]
    exact Ev.now _
  | succ d ih =>
    intro i hi n
    rw [Ev_succ]
    have h6 : P6.length = 6 := rfl
    simp only [standstillref08_Encode.l0, standstillref08_primes.f, Option.bind_some]
    rw [show ([2, 3, 5, 7, 11, 13] : List Int) = P6 from rfl]
    simp only [if_pos (show (i : Int) < (x.length : Int) by omega), if_pos (show (0 : Int) ≤ (i : Int) by omega), if_pos (show (i : Int) < (P6.length : Int) by omega), encG]
    have hR : rd x (i : Int) ≤ 9223372036854775807 := by
      rw [rd_nat x i (by omega)]
      exact (wf_i64 (hw _ (List.getElem_mem _))).2
    have hp := p6_ge (i := i) (by omega)
    exact re_l1 x i (rd P6 (i : Int)) (by omega) (by omega) hR d (by omega) (fun n => ih (i + 1) (by omega) n) (rd x (i : Int)).toNat 0 n (by omega) (by omega)
theorem RefEncode_ev (x : List Int) (h : okR x) (hw : ∀ v ∈ x, (Lit.int .i64 v).wf = true) : Ev (fun k => standstillref08_Encode.f k x) (outR (encG x x.length 0 1)) := re_l0 x h.2.1 hw x.length 0 (by omega) 1
theorem Contents_l0 (x : List Int) (hl : x.length ≤ 1000000000) : ∀ (d i : Nat), i + d = x.length → ∀ b : Bool, (b = true ↔ (∀ j, i ≤ j → j < x.length → 0 ≤ rd x (j : Int)) ∧ 1 ≤ x.length ∧ x.length ≤ 6) → Ev (fun k => standstillref08_Contents.l0 k x (i : Int)) b := by
  intro d
  induction d with
  | zero =>
    intro i hi b hb
    rw [Ev_succ]
    simp only [standstillref08_Contents.l0]
    simp only [if_neg (show ¬ (i : Int) < (x.length : Int) by omega)]
    by_cases a : (x.length : Int) ≥ 1
    · simp only [if_pos a]
      have hv : (∀ j, i ≤ j → j < x.length → 0 ≤ rd x (j : Int)) := fun j h1 h2 => by omega
      by_cases c : (x.length : Int) ≤ 6
      · rw [decide_eq_true c, hb.2 ⟨hv, by omega, by omega⟩]
        exact Ev.now _
      · rw [decide_eq_false c]
        have : b = false := by
          cases b with
          | false => rfl
          | true => have := (hb.1 rfl).2.2; omega
        rw [this]
        exact Ev.now _
    · simp only [if_neg a]
      have : b = false := by
        cases b with
        | false => rfl
        | true => have := (hb.1 rfl).2.1; omega
      rw [this]
      exact Ev.now _
  | succ d ih =>
    intro i hi b hb
    rw [Ev_succ]
    simp only [standstillref08_Contents.l0]
    simp only [if_pos (show (i : Int) < (x.length : Int) by omega), if_pos (show (0 : Int) ≤ (i : Int) by omega), cast_succ i (by omega)]
    by_cases a : rd x (i : Int) < 0
    · simp only [if_pos a]
      have : b = false := by
        cases b with
        | false => rfl
        | true => have := (hb.1 rfl).1 i (Nat.le_refl _) (by omega); omega
      rw [this]
      exact Ev.now _
    · simp only [if_neg a]
      refine ih (i + 1) (by omega) b (hb.trans ⟨fun h => ⟨fun j h1 h2 => h.1 j (by omega) h2, h.2⟩, fun h => ⟨fun j h1 h2 => ?_, h.2⟩⟩)
      by_cases e : j = i
      · subst e; omega
      · exact h.1 j (by omega) h2
theorem Contents_ev (x : List Int) (hl : x.length ≤ 1000000000) : (okR x → Ev (fun k => standstillref08_Contents.f k x) true) ∧ (¬ okR x → Ev (fun k => standstillref08_Contents.f k x) false) := by
  have key : okR x ↔ ((∀ j, 0 ≤ j → j < x.length → 0 ≤ rd x (j : Int)) ∧ 1 ≤ x.length ∧ x.length ≤ 6) := by
    constructor
    · rintro ⟨h1, h2, h3⟩
      exact ⟨fun j _ hj => by rw [rd_nat x j hj]; exact h3 _ (List.getElem_mem _), h1, h2⟩
    · rintro ⟨h1, h2, h3⟩
      refine ⟨h2, h3, fun v hv => ?_⟩
      obtain ⟨j, hj, rfl⟩ := List.getElem_of_mem hv
      rw [← rd_nat x j hj]
      exact h1 j (Nat.zero_le _) hj
  exact ⟨fun ho => Contents_l0 x hl x.length 0 (by omega) true ⟨fun _ => key.1 ho, fun _ => rfl⟩, fun ho => Contents_l0 x hl x.length 0 (by omega) false ⟨fun e => (Bool.noConfusion e), fun h => absurd (key.2 h) ho⟩⟩

theorem mulP_some {q : Int} (hq : 2 ≤ q) (hq2 : q ≤ 13) : ∀ (c : Nat) (n v : Int), 1 ≤ n → n ≤ 1152921504606846976 → mulP q c n = some v → v = n * q ^ c ∧ n * 2 ^ c ≤ v ∧ v ≤ 1152921504606846976 := by
  intro c
  induction c with
  | zero =>
    intro n v h1 h2 h
    obtain rfl := Option.some.inj h
    simp
    exact h2
  | succ c ih =>
    intro n v h1 h2 h
    simp only [mulP] at h
    rw [Int.tdiv_eq_ediv_of_nonneg (by decide)] at h
    have hdlo : 0 ≤ (1152921504606846976 : Int) / q := Int.ediv_nonneg (by decide) (by omega)
    have hdhi : (1152921504606846976 : Int) / q ≤ 1152921504606846976 := Int.ediv_le_self _ (by decide)
    rw [wrap_id (by omega) (by omega)] at h
    by_cases hm : n > (1152921504606846976 : Int) / q
    · rw [if_pos hm] at h
      cases h
    rw [if_neg hm] at h
    have hle : n * q ≤ 1152921504606846976 := Int.mul_le_of_le_ediv (by omega) (by omega)
    have hge : n * 2 ≤ n * q := Int.mul_le_mul_of_nonneg_left hq (by omega)
    rw [wrap_id (by omega) (by omega)] at h
    obtain ⟨e1, e2, e3⟩ := ih (n * q) v (by omega) hle h
    refine ⟨?_, ?_, e3⟩
    · rw [e1, Int.pow_succ, Int.mul_assoc, Int.mul_comm q]
    · have hp : (0 : Int) ≤ 2 ^ c := Int.le_of_lt (Int.pow_pos (by decide))
      have := Int.mul_le_mul_of_nonneg_right hge hp
      rw [Int.pow_succ, Int.mul_comm (2 ^ c) 2, ← Int.mul_assoc]
      exact Int.le_trans this e2
def prodG (x : List Int) : Nat → Nat → Int
  | 0, _ => 1
  | d + 1, i => rd P6 (i : Int) ^ (rd x (i : Int)).toNat * prodG x d (i + 1)
theorem pow_60 {c : Nat} (h : (2 : Int) ^ c ≤ 1152921504606846976) : c ≤ 60 := by
  by_cases hc : c ≤ 60
  · exact hc
  · exfalso
    obtain ⟨k, rfl⟩ : ∃ k, c = 61 + k := ⟨c - 61, by omega⟩
    rw [Int.pow_add] at h
    have h1 : (1 : Int) ≤ 2 ^ k := Int.pow_pos (by decide)
    have h2 : (2 : Int) ^ 61 = 2305843009213693952 := by decide
    rw [h2] at h
    omega
theorem encG_some (x : List Int) : ∀ (d i : Nat) (n v : Int), i + d ≤ 6 → 1 ≤ n → n ≤ 1152921504606846976 → encG x d i n = some v → v = n * prodG x d i ∧ n ≤ v ∧ v ≤ 1152921504606846976 ∧ ∀ j, i ≤ j → j < i + d → (rd x (j : Int)).toNat ≤ 60 := by
  intro d
  induction d with
  | zero =>
    intro i n v hi h1 h2 h
    obtain rfl := Option.some.inj h
    refine ⟨by simp [prodG], Int.le_refl _, h2, fun j h3 h4 => by omega⟩
  | succ d ih =>
    intro i n v hi h1 h2 h
    simp only [encG] at h
    obtain ⟨m, hm, h⟩ := Option.bind_eq_some_iff.1 h
    have hp := p6_ge (i := i) (by omega)
    obtain ⟨e1, e2, e3⟩ := mulP_some hp.1 hp.2 _ n m h1 h2 hm
    have h2p : (1 : Int) ≤ 2 ^ (rd x (i : Int)).toNat := Int.pow_pos (by decide)
    have hnm : n ≤ m := by
      have := Int.mul_le_mul_of_nonneg_left h2p (show 0 ≤ n by omega)
      omega
    obtain ⟨f1, f2, f3, f4⟩ := ih (i + 1) m v (by omega) (by omega) e3 h
    refine ⟨?_, Int.le_trans hnm f2, f3, fun j h3 h4 => ?_⟩
    · rw [f1, e1]
      simp only [prodG]
      rw [Int.mul_assoc]
    · by_cases e : j = i
      · subst e
        refine pow_60 ?_
        have : (2 : Int) ^ (rd x (j : Int)).toNat ≤ n * 2 ^ (rd x (j : Int)).toNat := by
          have := Int.mul_le_mul_of_nonneg_right h1 (show (0 : Int) ≤ 2 ^ (rd x (j : Int)).toNat by omega)
          omega
        omega
      · exact f4 j (by omega) (by omega)
/-- Taking a prime out. -/
def spo (q i : Int) : Nat → Int → List Int → Int × List Int
  | 0, n, o => (n, o)
  | d + 1, n, o => if Int.tmod n q = 0 then spo q i d (wrap64 (Int.tdiv n q)) (o.set i.toNat (wrap64 (rd o i + 1))) else (n, o)
def decG : Nat → Nat → Int → List Int → Int × List Int
  | 0, _, n, o => (n, o)
  | d + 1, i, n, o => decG d (i + 1) (spo (rd P6 (i : Int)) (i : Int) 62 n o).1 (spo (rd P6 (i : Int)) (i : Int) 62 n o).2
theorem tq {n q : Int} (h0 : 1 ≤ n) (h1 : n ≤ 1152921504606846976) (hq : 2 ≤ q) (hm : Int.tmod n q = 0) : wrap64 (Int.tdiv n q) = n / q ∧ 1 ≤ n / q ∧ n / q * 2 ≤ n := by
  rw [Int.tdiv_eq_ediv_of_nonneg (by omega)]
  rw [Int.tmod_eq_emod_of_nonneg (by omega)] at hm
  have hd : q * (n / q) = n := by
    have := Int.emod_def n q
    omega
  have hpos : 1 ≤ n / q := by
    by_cases h : 1 ≤ n / q
    · exact h
    · exfalso
      have h2 : n / q ≤ 0 := by omega
      have h3 : q * (n / q) ≤ 0 := Int.mul_nonpos_of_nonneg_of_nonpos (by omega) h2
      omega
  have h4 : n / q * 2 ≤ n := by
    have := Int.mul_le_mul_of_nonneg_right hq (show 0 ≤ n / q by omega)
    omega
  exact ⟨wrap_id (by omega) (by omega), hpos, h4⟩
theorem spo_pos {q i : Int} (hq : 2 ≤ q) : ∀ (f : Nat) (n : Int) (o : List Int), 1 ≤ n → n ≤ 1152921504606846976 → 1 ≤ (spo q i f n o).1 ∧ (spo q i f n o).1 ≤ 1152921504606846976 ∧ (spo q i f n o).2.length = o.length := by
  intro f
  induction f with
  | zero => intro n o h0 h1; exact ⟨h0, h1, rfl⟩
  | succ f ih =>
    intro n o h0 h1
    simp only [spo]
    by_cases hm : Int.tmod n q = 0
    · rw [if_pos hm]
      obtain ⟨e1, e2, e3⟩ := tq h0 h1 hq hm
      rw [e1]
      have := ih (n / q) (o.set i.toNat (wrap64 (rd o i + 1))) e2 (by omega)
      rw [List.length_set] at this
      exact this
    · rw [if_neg hm]
      exact ⟨h0, h1, rfl⟩
theorem p62 {n : Int} (h : n ≤ 1152921504606846976) : n < 2 ^ 62 := Int.lt_of_le_of_lt h (by decide)
def outD (z : Int × List Int) : List Int × Int := if z.1 = 1 then (z.2, 0) else ([], 6)
def outS (z : Int × List Int) : List Int × Bool := (z.2, z.1 == 1)
theorem pd_l1 (ps : List Int) (L q : Int) (i d N : Nat) (hi : i < N) (hi2 : i ≤ 1000) (hq : 2 ≤ q) (ih : ∀ n o, 1 ≤ n → n ≤ 1152921504606846976 → o.length = N → Ev (fun k => pair_Decode.l0 k n o ps L ((i + 1 : Nat) : Int)) (outD (decG d (i + 1) n o))) : ∀ (f : Nat) (n : Int) (o : List Int), 1 ≤ n → n ≤ 1152921504606846976 → n < 2 ^ f → o.length = N → Ev (fun k => pair_Decode.l1 k n o (i : Int) q ps L (i : Int)) (outD (decG d (i + 1) (spo q (i : Int) f n o).1 (spo q (i : Int) f n o).2)) := by
  intro f
  induction f with
  | zero => intro n o h0 h1 h2; simp at h2; omega
  | succ f ihf =>
    intro n o h0 h1 h2 hl
    rw [Ev_succ]
    simp only [pair_Decode.l1, spo]
    simp only [if_neg (show ¬ q = 0 by omega)]
    by_cases hm : Int.tmod n q = 0
    · simp only [if_pos hm, if_pos (show (0 : Int) ≤ (i : Int) by omega), if_pos (show (i : Int) < (o.length : Int) by omega)]
      obtain ⟨e1, e2, e3⟩ := tq h0 h1 hq hm
      rw [e1]
      refine ihf (n / q) _ e2 (by omega) ?_ (by rw [List.length_set]; exact hl)
      rw [Int.pow_succ] at h2
      omega
    · simp only [if_neg hm, cast_succ i (by omega)]
      exact ih n o h0 h1 hl
theorem pd_l0 (ps : List Int) (hps : ∀ i : Nat, i < ps.length → rd ps (i : Int) = rd P6 (i : Int)) (hl : ps.length ≤ 6) : ∀ (d i : Nat), i + d = ps.length → ∀ n o, 1 ≤ n → n ≤ 1152921504606846976 → o.length = ps.length → Ev (fun k => pair_Decode.l0 k n o ps (ps.length : Int) (i : Int)) (outD (decG d i n o)) := by
  intro d
  induction d with
  | zero =>
    intro i hi n o h0 h1 h2
    rw [Ev_succ]
    simp only [pair_Decode.l0]
    simp only [if_neg (show ¬ (i : Int) < (ps.length : Int) by omega)]
    by_cases e : n = 1
    · rw [show outD (decG 0 i n o) = (o, 0) from if_pos e]
      simp only [if_pos e]
      exact Ev.now _
    · rw [show outD (decG 0 i n o) = ([], 6) from if_neg e]
      simp only [if_neg e]
      exact Ev.now _
  | succ d ih =>
    intro i hi n o h0 h1 h2
    rw [Ev_succ]
    simp only [pair_Decode.l0]
    simp only [if_pos (show (i : Int) < (ps.length : Int) by omega), if_pos (show (0 : Int) ≤ (i : Int) by omega), hps i (by omega), decG]
    exact pd_l1 ps (ps.length : Int) (rd P6 (i : Int)) i d ps.length (by omega) (by omega) (p6_ge (by omega)).1 (ih (i + 1) (by omega)) 62 n o h0 h1 (p62 h1) h2
/-- What Decode answers. -/
theorem Decode_bad (n m : Int) (h : n < 1 ∨ n > 1152921504606846976 ∨ m < 1 ∨ m > 6) : Ev (fun k => pair_Decode.f k n m) ([], 2) := by
  have J : Ev (fun k => pair_Decode.j0 k n m true) ([], 2) := by
    rw [Ev_succ]
    simp only [pair_Decode.j0, if_true]
    exact Ev.now _
  unfold pair_Decode.f
  by_cases a : n < 1
  · simp only [if_pos a]; exact J
  by_cases b : n > 1152921504606846976
  · simp only [if_neg a, if_pos b]; exact J
  by_cases c : m < 1
  · simp only [if_neg a, if_neg b, if_pos c]; exact J
  simp only [if_neg a, if_neg b, if_neg c]
  rw [decide_eq_true (show m > 6 by omega)]
  exact J
theorem Decode_ev (n : Int) (m : Nat) (h0 : 1 ≤ n) (h1 : n ≤ 1152921504606846976) (h2 : 1 ≤ m) (h3 : m ≤ 6) : Ev (fun k => pair_Decode.f k n (m : Int)) (outD (decG m 0 n (List.replicate m 0))) := by
  unfold pair_Decode.f
  simp only [if_neg (show ¬ n < 1 by omega), if_neg (show ¬ n > 1152921504606846976 by omega), if_neg (show ¬ (m : Int) < 1 by omega)]
  rw [decide_eq_false (show ¬ (m : Int) > 6 by omega), Ev_succ]
  have h6 : P6.length = 6 := rfl
  have hlen : (P6.take m).length = m := by
    rw [List.length_take]
    omega
  simp only [pair_Decode.j0, Bool.false_eq_true, if_false, pair_primes.f, Option.bind_some, Int.toNat_natCast]
  rw [show ([2, 3, 5, 7, 11, 13] : List Int) = P6 from rfl]
  simp only [if_pos (show (0 : Int) ≤ (m : Int) by omega), if_pos (show m ≤ 35184372088832 by omega), if_pos (show (m : Int) ≤ (P6.length : Int) by omega)]
  refine pd_l0 (P6.take m) (fun i hi => ?_) (by omega) m 0 (by omega) n _ h0 h1 (by rw [hlen, List.length_replicate])
  rw [hlen] at hi
  rw [rd_nat _ i (by omega), rd_nat P6 i (by omega), List.getElem_take]
theorem rd_l1 (m q : Int) (i d N : Nat) (hi : i < N) (hi2 : i < 6) (hqe : q = rd P6 (i : Int)) (ih : ∀ n o, 1 ≤ n → n ≤ 1152921504606846976 → o.length = N → Ev (fun k => standstillref08_Decode.l0 k n m o ((i + 1 : Nat) : Int)) (outS (decG d (i + 1) n o))) : ∀ (f : Nat) (n : Int) (o : List Int), 1 ≤ n → n ≤ 1152921504606846976 → n < 2 ^ f → o.length = N → Ev (fun k => standstillref08_Decode.l1 k n m o (i : Int)) (outS (decG d (i + 1) (spo q (i : Int) f n o).1 (spo q (i : Int) f n o).2)) := by
  have hq : 2 ≤ q := by rw [hqe]; exact (p6_ge hi2).1
  intro f
  induction f with
  | zero => intro n o h0 h1 h2; simp at h2; omega
  | succ f ihf =>
    intro n o h0 h1 h2 hl
    rw [Ev_succ]
    have h6 : P6.length = 6 := rfl
    simp only [standstillref08_Decode.l1, spo, standstillref08_primes.f, Option.bind_some]
    rw [show ([2, 3, 5, 7, 11, 13] : List Int) = P6 from rfl]
    simp only [← hqe]
    simp only [if_neg (show ¬ q = 0 by omega), if_pos (show (0 : Int) ≤ (i : Int) by omega), if_pos (show (i : Int) < (P6.length : Int) by omega)]
    by_cases hm : Int.tmod n q = 0
    · simp only [if_pos hm, if_pos (show (i : Int) < (o.length : Int) by omega)]
      obtain ⟨e1, e2, e3⟩ := tq h0 h1 hq hm
      rw [e1]
      refine ihf (n / q) _ e2 (by omega) ?_ (by rw [List.length_set]; exact hl)
      rw [Int.pow_succ] at h2
      omega
    · simp only [if_neg hm, cast_succ i (by omega)]
      exact ih n o h0 h1 hl
theorem rd_l0 (m : Nat) (hm : m ≤ 6) : ∀ (d i : Nat), i + d = m → ∀ n o, 1 ≤ n → n ≤ 1152921504606846976 → o.length = m → Ev (fun k => standstillref08_Decode.l0 k n (m : Int) o (i : Int)) (outS (decG d i n o)) := by
  intro d
  induction d with
  | zero =>
    intro i hi n o h0 h1 h2
    rw [Ev_succ]
    simp only [standstillref08_Decode.l0]
    simp only [if_neg (show ¬ (i : Int) < (m : Int) by omega), decG, outS]
    exact Ev.now _
  | succ d ih =>
    intro i hi n o h0 h1 h2
    rw [Ev_succ]
    simp only [standstillref08_Decode.l0]
    simp only [if_pos (show (i : Int) < (m : Int) by omega), decG]
    exact rd_l1 (m : Int) (rd P6 (i : Int)) i d m (by omega) (by omega) rfl (ih (i + 1) (by omega)) 62 n o h0 h1 (p62 h1) h2
theorem RefDecode_ev (n : Int) (m : Nat) (h0 : 1 ≤ n) (h1 : n ≤ 1152921504606846976) (h3 : m ≤ 6) : Ev (fun k => standstillref08_Decode.f k n (m : Int)) (outS (decG m 0 n (List.replicate m 0))) := by
  unfold standstillref08_Decode.f
  simp only [if_pos (show (0 : Int) ≤ (m : Int) by omega), Int.toNat_natCast, if_pos (show m ≤ 35184372088832 by omega)]
  exact rd_l0 m h3 m 0 (by omega) n _ h0 h1 (by rw [List.length_replicate])

theorem rd_set_self (o : List Int) (i : Nat) (h : i < o.length) (v : Int) : rd (o.set i v) (i : Int) = v := by
  rw [rd_nat _ i (by rw [List.length_set]; exact h)]
  simp
theorem set_rd (o : List Int) (i : Nat) (h : i < o.length) : o.set i (rd o (i : Int)) = o := by
  rw [rd_nat o i h]
  simp
theorem spo_pow {q : Int} (hq : 2 ≤ q) {m : Int} (hm0 : 1 ≤ m) (hm : m % q ≠ 0) (i : Nat) : ∀ (c f : Nat) (o : List Int), i < o.length → c < f → q ^ c * m ≤ 1152921504606846976 → 0 ≤ rd o (i : Int) → rd o (i : Int) + (c : Int) ≤ 1000 → spo q (i : Int) f (q ^ c * m) o = (m, o.set i (rd o (i : Int) + (c : Int))) := by
  intro c
  induction c with
  | zero =>
    intro f o hi hc hb h0 h1
    obtain ⟨f, rfl⟩ : ∃ g, f = g + 1 := ⟨f - 1, by omega⟩
    simp only [spo, Int.pow_zero, Int.one_mul]
    rw [Int.tmod_eq_emod_of_nonneg (by omega), if_neg hm]
    simp only [Int.natCast_zero, Int.add_zero]
    rw [set_rd o i hi]
  | succ c ih =>
    intro f o hi hc hb h0 h1
    obtain ⟨f, rfl⟩ : ∃ g, f = g + 1 := ⟨f - 1, by omega⟩
    have hpc : (1 : Int) ≤ q ^ c := Int.pow_pos (by omega)
    have hx : 1 ≤ q ^ c * m := by
      have := Int.mul_le_mul_of_nonneg_left hm0 (show 0 ≤ q ^ c by omega)
      omega
    have he : q ^ (c + 1) * m = q * (q ^ c * m) := by rw [Int.pow_succ, Int.mul_comm (q ^ c) q, Int.mul_assoc]
    have hge : q ^ c * m ≤ q * (q ^ c * m) := by
      have := Int.mul_le_mul_of_nonneg_right (show (1 : Int) ≤ q by omega) (show 0 ≤ q ^ c * m by omega)
      omega
    rw [he] at hb ⊢
    have hmod : Int.tmod (q * (q ^ c * m)) q = 0 := by
      rw [Int.tmod_eq_emod_of_nonneg (by omega)]
      exact Int.mul_emod_right _ _
    have hdiv : wrap64 (Int.tdiv (q * (q ^ c * m)) q) = q ^ c * m := by
      rw [Int.tdiv_eq_ediv_of_nonneg (by omega), Int.mul_ediv_cancel_left _ (by omega)]
      exact wrap_id (by omega) (by omega)
    simp only [spo]
    rw [if_pos hmod, hdiv, Int.toNat_natCast]
    push_cast at h1
    have hw : wrap64 (rd o (i : Int) + 1) = rd o (i : Int) + 1 := wrap_id (by omega) (by omega)
    rw [hw]
    have hs := rd_set_self o i hi (rd o (i : Int) + 1)
    have := ih f (o.set i (rd o (i : Int) + 1)) (by rw [List.length_set]; exact hi) (by omega) (by omega) (by rw [hs]; omega) (by rw [hs]; omega)
    rw [this, hs, List.set_set]
    congr 2
    push_cast
    omega
theorem nd_pow {q p : Int} (h : ∀ x : Int, x % q ≠ 0 → (x * p) % q ≠ 0) : ∀ (c : Nat) (x : Int), x % q ≠ 0 → (p ^ c * x) % q ≠ 0 := by
  intro c
  induction c with
  | zero => intro x hx; simpa using hx
  | succ c ih =>
    intro x hx
    have := h _ (ih x hx)
    rw [show p ^ (c + 1) * x = p ^ c * x * p by rw [Int.pow_succ, Int.mul_assoc, Int.mul_comm p x, ← Int.mul_assoc]]
    exact this
theorem nd6 {a b : Nat} (hab : a < b) (hb : b < 6) : ∀ x : Int, x % rd P6 (a : Int) ≠ 0 → (x * rd P6 (b : Int)) % rd P6 (a : Int) ≠ 0 := by
  have r0 : rd P6 ((0 : Nat) : Int) = 2 := rfl
  have r1 : rd P6 ((1 : Nat) : Int) = 3 := rfl
  have r2 : rd P6 ((2 : Nat) : Int) = 5 := rfl
  have r3 : rd P6 ((3 : Nat) : Int) = 7 := rfl
  have r4 : rd P6 ((4 : Nat) : Int) = 11 := rfl
  have r5 : rd P6 ((5 : Nat) : Int) = 13 := rfl
  intro x
  rcases (by omega : a = 0 ∨ a = 1 ∨ a = 2 ∨ a = 3 ∨ a = 4) with rfl | rfl | rfl | rfl | rfl <;>
  rcases (by omega : b = 1 ∨ b = 2 ∨ b = 3 ∨ b = 4 ∨ b = 5) with rfl | rfl | rfl | rfl | rfl <;>
  first
    | omega
    | (simp only [r0, r1, r2, r3, r4, r5]; omega)
theorem prodG_nd (x : List Int) (a : Nat) : ∀ (d i : Nat), a < i → i + d ≤ 6 → prodG x d i % rd P6 (a : Int) ≠ 0 := by
  intro d
  induction d with
  | zero =>
    intro i h0 h1
    simp only [prodG]
    have hp := p6_ge (i := a) (by omega)
    rw [Int.emod_eq_of_lt (by decide) (by omega)]
    decide
  | succ d ih =>
    intro i h0 h1
    simp only [prodG]
    exact nd_pow (nd6 h0 (by omega)) _ _ (ih (i + 1) (by omega) (by omega))
theorem prodG_pos (x : List Int) : ∀ (d i : Nat), i + d ≤ 6 → 1 ≤ prodG x d i := by
  intro d
  induction d with
  | zero => intro i h; exact Int.le_refl _
  | succ d ih =>
    intro i h
    simp only [prodG]
    have hp := p6_ge (i := i) (by omega)
    have h1 : (1 : Int) ≤ rd P6 (i : Int) ^ (rd x (i : Int)).toNat := Int.pow_pos (by omega)
    have h2 := ih (i + 1) (by omega)
    have := Int.mul_le_mul_of_nonneg_left h2 (show 0 ≤ rd P6 (i : Int) ^ (rd x (i : Int)).toNat by omega)
    omega
theorem prodG_tail (x : List Int) (d i : Nat) (h : i + (d + 1) ≤ 6) : prodG x d (i + 1) ≤ prodG x (d + 1) i := by
  have hp := p6_ge (i := i) (by omega)
  have h1 : (1 : Int) ≤ rd P6 (i : Int) ^ (rd x (i : Int)).toNat := Int.pow_pos (by omega)
  have h2 := prodG_pos x d (i + 1) (by omega)
  have := Int.mul_le_mul_of_nonneg_right h1 (show 0 ≤ prodG x d (i + 1) by omega)
  simp only [prodG]
  omega
theorem decG_prod (x : List Int) (hx : ∀ v ∈ x, 0 ≤ v) (hl : x.length ≤ 6) (h60 : ∀ j, j < x.length → (rd x (j : Int)).toNat ≤ 60) : ∀ (d i : Nat), i + d = x.length → prodG x d i ≤ 1152921504606846976 → decG d i (prodG x d i) (x.take i ++ List.replicate d 0) = (1, x) := by
  intro d
  induction d with
  | zero =>
    intro i hi hb
    simp only [decG, prodG, List.replicate_zero, List.append_nil]
    rw [List.take_of_length_le (by omega)]
  | succ d ih =>
    intro i hi hb
    have hp := p6_ge (i := i) (by omega)
    have hxi : 0 ≤ rd x (i : Int) := by rw [rd_nat x i (by omega)]; exact hx _ (List.getElem_mem _)
    have h6 := h60 i (by omega)
    have hlen : (x.take i ++ List.replicate (d + 1) (0 : Int)).length = x.length := by simp; omega
    have hrd : rd (x.take i ++ List.replicate (d + 1) (0 : Int)) (i : Int) = 0 := by
      rw [rd_nat _ i (by omega), List.getElem_append_right (by simp; omega)]
      simp
    have hs := spo_pow hp.1 (prodG_pos x d (i + 1) (by omega)) (prodG_nd x i d (i + 1) (by omega) (by omega)) i (rd x (i : Int)).toNat 62 (x.take i ++ List.replicate (d + 1) 0) (by omega) (by omega) hb (by rw [hrd]; decide) (by rw [hrd]; omega)
    have hset : (x.take i ++ List.replicate (d + 1) (0 : Int)).set i (0 + ((rd x (i : Int)).toNat : Int)) = x.take (i + 1) ++ List.replicate d 0 := by
      rw [List.set_append_right _ _ (by simp; omega), List.replicate_succ]
      rw [show i - (x.take i).length = 0 by simp; omega]
      rw [List.set_cons_zero, take_snoc x i (by omega), List.append_assoc]
      rw [show (0 + ((rd x (i : Int)).toNat : Int)) = x[i]'(by omega) by rw [← rd_nat x i (by omega)]; omega]
      rfl
    simp only [decG, prodG]
    rw [hs, hrd, hset]
    exact ih (i + 1) (by omega) (Int.le_trans (prodG_tail x d i (by omega)) hb)
/-- Decode of Encode. -/
theorem round (x : List Int) (ho : okR x) {v : Int} (h : encG x x.length 0 1 = some v) : (1 ≤ v ∧ v ≤ 1152921504606846976) ∧ (∀ j, j < x.length → (rd x (j : Int)).toNat ≤ 60) ∧ outD (decG x.length 0 v (List.replicate x.length 0)) = (x, 0) := by
  have hl := ho.2.1
  obtain ⟨e1, e2, e3, e4⟩ := encG_some x x.length 0 1 v (by omega) (by decide) (by decide) h
  rw [Int.one_mul] at e1
  have h60 : ∀ j, j < x.length → (rd x (j : Int)).toNat ≤ 60 := fun j hj => e4 j (Nat.zero_le _) (by omega)
  refine ⟨⟨e2, e3⟩, h60, ?_⟩
  have := decG_prod x ho.2.2 hl h60 x.length 0 (by omega) (by rw [← e1]; exact e3)
  rw [List.take_zero, List.nil_append, ← e1] at this
  rw [this]
  rfl
theorem same_ev (l : List Int) (hl : l.length ≤ 100000) : Ev (fun k => standstilllaw08_same.f k l l) true := by
  unfold standstilllaw08_same.f
  rw [Ev_bind (sameCount_refl 0 l hl)]
  exact Ev.now _
theorem decG_len : ∀ (d i : Nat) (n : Int) (o : List Int), i + d ≤ 6 → 1 ≤ n → n ≤ 1152921504606846976 → (decG d i n o).2.length = o.length := by
  intro d
  induction d with
  | zero => intro i n o h0 h1 h2; rfl
  | succ d ih =>
    intro i n o h0 h1 h2
    have hs := spo_pos (q := rd P6 (i : Int)) (i := (i : Int)) (p6_ge (by omega)).1 62 n o h1 h2
    simp only [decG]
    rw [ih (i + 1) _ _ (by omega) hs.1 hs.2.1, hs.2.2]
theorem law_l0 (x : List Int) (hl : x.length ≤ 100) (ho : okR x) (hw : ∀ v ∈ x, (Lit.int .i64 v).wf = true) (z : Int × Int) (hz : z = outE (encG x x.length 0 1)) : ∀ (d i : Nat), i + d = x.length → Ev (fun k => standstilllaw08_PairCodes.l0 k x z.1 z.2 (i : Int)) true := by
  intro d
  induction d with
  | zero =>
    intro i hi
    rw [Ev_succ]
    simp only [standstilllaw08_PairCodes.l0]
    simp only [if_neg (show ¬ (i : Int) < (x.length : Int) by omega)]
    rw [Ev_bind (RefEncode_ev x ho hw)]
    cases he : encG x x.length 0 1 with
    | none =>
      rw [he] at hz
      subst hz
      simp only [outE, outR, Bool.false_eq_true, if_false, if_true]
      exact awake_b
    | some v =>
      rw [he] at hz
      subst hz
      obtain ⟨⟨h1, h2⟩, h3, h4⟩ := round x ho he
      simp only [outE, outR, if_true]
      rw [Ev_bind (Decode_ev v x.length h1 h2 ho.1 ho.2.1), h4]
      simp only [if_true]
      rw [Ev_bind (same_ev x (by omega))]
      simp only [if_true]
      exact awake_b
  | succ d ih =>
    intro i hi
    rw [Ev_succ]
    simp only [standstilllaw08_PairCodes.l0]
    simp only [if_pos (show (i : Int) < (x.length : Int) by omega), if_pos (show (0 : Int) ≤ (i : Int) by omega), cast_succ i (by omega)]
    by_cases a : rd x (i : Int) > 60
    · simp only [if_pos a]
      cases he : encG x x.length 0 1 with
      | none =>
        rw [he] at hz
        subst hz
        simp only [outE, if_true]
        exact awake_b
      | some v =>
        have := (round x ho he).2.1 i (by omega)
        omega
    · simp only [if_neg a]
      exact ih (i + 1) (by omega)
theorem law_j1 (x : List Int) (hl : x.length ≤ 100) (hw : ∀ v ∈ x, (Lit.int .i64 v).wf = true) (z : Int × Int) (hz : (okR x → z = outE (encG x x.length 0 1)) ∧ (¬ okR x → z = (0, 2))) : Ev (fun k => standstilllaw08_PairCodes.j1 k x z.1 z.2) true := by
  rw [Ev_succ]
  simp only [standstilllaw08_PairCodes.j1]
  by_cases ho : okR x
  · rw [Ev_bind ((Contents_ev x (by omega)).1 ho)]
    simp only [if_true]
    exact law_l0 x hl ho hw z (hz.1 ho) x.length 0 (by omega)
  · rw [Ev_bind ((Contents_ev x (by omega)).2 ho), hz.2 ho]
    simp only [Bool.false_eq_true, if_false, if_true]
    exact awake_b
/-- Encode and Decode answer as the document says; Decode of Encode are the contents. For lists of more than 100 contents the law asks for the chapter's examples only. -/
theorem PairCodes : standstilllaw08_PairCodes.Pure := by
  intro x a1 a2 hmax hlen hw hw1 hw2
  suffices h : Ev (fun k => standstilllaw08_PairCodes.f k x a1 a2) true by
    obtain ⟨K, h⟩ := h
    exact ⟨K, h K (Nat.le_refl _)⟩
  unfold standstilllaw08_PairCodes.f
  by_cases c : (x.length : Int) > 100
  · simp only [if_pos c]
    exact awake_b
  simp only [if_neg c]
  have hl : x.length ≤ 100 := by omega
  obtain ⟨z, hz, hev⟩ : ∃ z : Int × Int, ((okR x → z = outE (encG x x.length 0 1)) ∧ (¬ okR x → z = (0, 2))) ∧ Ev (fun k => pair_Encode.f k x) z := by
    by_cases ho : okR x
    · exact ⟨_, ⟨fun _ => rfl, fun h => absurd ho h⟩, (Encode_ev x hl hw).1 ho⟩
    · exact ⟨_, ⟨fun h => absurd h ho, fun _ => rfl⟩, (Encode_ev x hl hw).2 ho⟩
  rw [Ev_bind hev]
  have J1 := law_j1 x hl hw z hz
  have bad : (a1 < 1 ∨ a1 > 1152921504606846976 ∨ a2 < 1 ∨ a2 > 6) → Ev (fun k => standstilllaw08_PairCodes.j0 k x a1 a2 z.1 z.2 [] 2 true) true := by
    intro hb
    rw [Ev_succ]
    simp only [standstilllaw08_PairCodes.j0, if_true]
    simp only [List.length_nil]
    exact J1
  by_cases g : a1 < 1 ∨ a1 > 1152921504606846976 ∨ a2 < 1 ∨ a2 > 6
  · rw [Ev_bind (Decode_bad a1 a2 g)]
    have B := bad g
    by_cases g1 : a1 < 1
    · simp only [if_pos g1]; exact B
    by_cases g2 : a1 > 1152921504606846976
    · simp only [if_neg g1, if_pos g2]; exact B
    by_cases g3 : a2 < 1
    · simp only [if_neg g1, if_neg g2, if_pos g3]; exact B
    simp only [if_neg g1, if_neg g2, if_neg g3]
    rw [decide_eq_true (show a2 > 6 by omega)]
    exact B
  · obtain ⟨m, rfl⟩ := Int.eq_ofNat_of_zero_le (show 0 ≤ a2 by omega)
    rw [Ev_bind (Decode_ev a1 m (by omega) (by omega) (by omega) (by omega))]
    simp only [if_neg (show ¬ a1 < 1 by omega), if_neg (show ¬ a1 > 1152921504606846976 by omega), if_neg (show ¬ (m : Int) < 1 by omega)]
    rw [decide_eq_false (show ¬ (m : Int) > 6 by omega), Ev_succ]
    simp only [standstilllaw08_PairCodes.j0, Bool.false_eq_true, if_false]
    rw [Ev_bind (RefDecode_ev a1 m (by omega) (by omega) (by omega))]
    have hlen2 := decG_len m 0 a1 (List.replicate m 0) (by omega) (by omega) (by omega)
    rw [List.length_replicate] at hlen2
    generalize decG m 0 a1 (List.replicate m 0) = y at hlen2 ⊢
    obtain ⟨n, o⟩ := y
    simp only at hlen2
    by_cases e : n = 1
    · simp only [outD, outS, if_pos e, beq_iff_eq, if_true]
      rw [Ev_bind (same_ev o (by omega))]
      simp only [if_true]
      exact J1
    · simp only [outD, outS, if_neg e, beq_iff_eq]
      simp only [List.length_nil, if_true]
      exact J1

end Go.Proofs.Ytkbekdjoaibhbaa.Pure
