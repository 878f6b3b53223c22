-- out of a turned copy of the print, by a program of this session; Lean checks it
import Derived.Test.YtngmdidegmbpfaaPLoopEverx0
import Derived.Test.YtngmdidegmbpfaaPLoopEverx4
import Derived.Test.YtngmdidegmbpfaaPLoopEverx5
import Derived.Test.YtngmdidegmbpfaaPLoopEverx6
import Derived.Test.YtngmdidegmbpfaaPLoopEverx7
namespace Go.Proofs.Ytngmdidegmbpfaa.PLoopEver
open Go.RowKit Go.Proofs.YtngmdidegmbpfaaW.PrintWords Go.Proofs.YtngmdidegmbpfaaW.PrintLast Go.Proofs.YtngmdidegmbpfaaW.PrintMore
attribute [local go_sem] max2_int min2_int max_two min_two max_three min_three max_four min_four   -- for this text's walks alone
set_option linter.unusedVariables false
set_option linter.unusedSimpArgs false

attribute [local go_sem] isSome_put_
/-! ### standstillref10_Run_Go: function 17 (by hand) -/
def RR.go (rules : List (List (S52))) : Nat → RR → Option RR
  | 0, s => some s
  | d + 1, s => (RR.step rules s).bind fun t => if t.2 = true then RR.go rules d t.1 else some t.1
set_option maxHeartbeats 8000000 in
set_option maxRecDepth 100000 in
theorem rr_go (A0 : Option Addr) (c0 : Nat) (rules : List (List (S52))) (w0 w : World) (base : Nat) (S : Nat → Prop) (g : Nat) (a0 a1 : Int) (s s' : RR) (n : Int) (h : IsRr w base S g a0 a1 (.slice A0 rules.length c0) s) (hr0 : Kd.C (Kd.slice 52 k52) w0 A0 rules.length rules) (hB0 : w0.heap.size ≤ base) (hB : Below base w0 w) (hs : base ≤ w.heap.size) (hF : ∀ k, w.heap.size ≤ k → S k) (hn1 : n ≤ 1000000000) (hst : RR.go rules n.toNat s = some s') :
    Calls Try.prog 17 #[.pointer (some ⟨g, 0, none⟩), .int .i64 n] w fun e w' => e = .returned (.pointer (some ⟨g, 0, none⟩)) ∧ IsRr w' base S g a0 a1 (.slice A0 rules.length c0) s' ∧ Below base w0 w' ∧ Kept w w' S := by
  have HI := Aside0.mk h
  have HB := Aside0.mk hB
  have HS := Aside0.mk hs
  have HF := Aside0.mk hF
  have HR0 := Aside0.mk hr0
  have HB0 := Aside0.mk hB0
  have H := Aside0.mk hst
  clear h hB hs hF hr0 hB0 hst
  have HKP := Aside0.mk (Kept.refl w S)
  go_enter Try.func17, Try.ntmps17
  go_wp2
  go_loopg [5] (n.toNat) (fun kq v5 w' => ∃ (i : Int) (t : RR), v5 = .int .i64 i ∧ Aside0 (0 ≤ i ∧ (n - i).toNat = kq ∧ (i ≤ n ∨ i = 0)) ∧ Aside0 (RR.go rules kq t = some s') ∧ Aside0 (IsRr w' base S g a0 a1 (.slice A0 rules.length c0) t) ∧ Aside0 (Below base w0 w') ∧ Aside0 (Kept w w' S))
  case atStart => exact ⟨0, s, rfl, ⟨by omega, by omega, .inr rfl⟩, H, HI, HB, HKP⟩
  case round =>
    clear H HI HB HKP
    obtain ⟨i, t, rfl, HN, H, HI, HB, HKP⟩ := hrel
    obtain ⟨hi0, hi2, hi3⟩ := HN.out
    cases gk with
    | zero =>
      have hin : ¬ i < n := by omega
      have hd := decide_eq_false hin
      have h := H.out
      simp only [RR.go, Option.some.injEq] at h
      subst h
      clear H hi3
      replace hin := eq_false hin
      go_wp2
      go_ret
      exact ⟨rfl, HI.out, HB.out, HKP.out⟩
    | succ d =>
      have hin : i < n := by omega
      have hd := decide_eq_true hin
      have h := H.out
      simp only [RR.go] at h
      obtain ⟨⟨t1, b⟩, hst, h⟩ := Option.bind_eq_some_iff.1 h
      have HC := Aside0.mk (rr_step A0 c0 rules w0 wr base S g a0 a1 t t1 b HI.out HR0.out HB0.out HB.out (Nat.le_trans HS.out HKP.out.1) (fun k hk => HF.out k (Nat.le_trans HKP.out.1 hk)) hst)
      clear H hst hi3
      have HIN := Aside0.mk hin
      replace hin := eq_true hin
      cases b with
      | false =>
        simp only [Bool.false_eq_true, if_false, Option.some.injEq] at h
        subst h
        go_wp2_with (go_at_call 26; refine HC.out.mono ?_; rintro e w1 ⟨rfl, hI1, hB1, hKP1⟩)
        go_ret
        exact ⟨rfl, hI1, hB1, HKP.out.then_ hKP1 (fun k hk => .inl hk)⟩
      | true =>
        simp only [if_true] at h
        have H := Aside0.mk h
        clear h
        have e1 : wrap64 (i + 1) = i + 1 := wrap_mid_ (by have := HIN.out; omega)
        go_wp2_with (go_at_call 26; refine HC.out.mono ?_; rintro e w1 ⟨rfl, hI1, hB1, hKP1⟩)
        go_roundg d
        case measure => omega
        case rel => exact ⟨i + 1, t1, by simp only [e1], ⟨by omega, by omega, .inl (by have := HIN.out; omega)⟩, H, ⟨hI1⟩, ⟨hB1⟩, ⟨HKP.out.then_ hKP1 (fun k hk => .inl hk)⟩⟩

/-! ### standstilllaw10_LoopEver: function 5 (by hand) -/
def standstilllaw10_LoopEver.f (kk : Nat) (a0 a1 : Int) (rules : List (List (S52))) (a b : Int) (right : Bool) (n i j : Int) : Option Bool :=
  (standstillref10_Valid.f kk a0 a1 rules).bind fun v => if v = true then (if b ≤ 1000 then
    (loop_Check.f kk a0 a1 rules a b right).bind fun c => if c.1 = true then (if c.2 = 0 then
      (if 0 ≤ n ∧ n ≤ 65535 ∧ 0 ≤ i ∧ i ≤ 65535 ∧ 0 ≤ j ∧ j ≤ 65535 ∧ 0 ≤ a ∧ a < b then
        (RR.go rules (n % 20001).toNat RR.new).bind fun r => (loop_After.f kk a0 a1 rules a b right (n % 20001)).bind fun t =>
        (loop_Check.f kk a0 a1 rules (a + i % 200) (b + i % 200) right).bind fun c1 => (loop_Check.f kk a0 a1 rules a (a + (1 + j % 4) * (b - a)) right).bind fun c2 =>
          if r.st ≠ -1 ∧ t = (r.po, r.st, 0) ∧ c1 = (true, 0) ∧ c2 = (true, 0) then standstilllaw10_awake.f kk else none
      else none)
      else standstilllaw10_awake.f kk) else standstilllaw10_awake.f kk
    else standstilllaw10_awake.f kk) else standstilllaw10_awake.f kk
theorem standstilllaw10_LoopEver.mono : ∀ a0 a1 a2 a3 a4 a5 a6 a7 a8 k, LeO (standstilllaw10_LoopEver.f k a0 a1 a2 a3 a4 a5 a6 a7 a8) (standstilllaw10_LoopEver.f (k + 1) a0 a1 a2 a3 a4 a5 a6 a7 a8) := by
  intro a0 a1 a2 a3 a4 a5 a6 a7 a8 k
  unfold standstilllaw10_LoopEver.f
  repeat' first
    | (with_reducible exact standstilllaw10_awake.mono _)
    | (with_reducible exact loop_Check.mono _ _ _ _ _ _ _)
    | (with_reducible exact loop_After.mono _ _ _ _ _ _ _ _)
    | (with_reducible exact standstillref10_Valid.mono _ _ _ _)
    | (with_reducible exact LeO.refl _)
    | (with_reducible refine LeO.ite ?_ ?_)
    | (with_reducible refine LeO.bind ?_ (fun _ => ?_))
set_option maxHeartbeats 8000000 in
set_option maxRecDepth 100000 in
theorem standstilllaw10_LoopEver.calls (kk : Nat) (a0_0 a0_1 : Int) (A0_2 : Option Addr) (c0_2 : Nat) (l0_2 : List (List (S52))) (a1 a2 : Int) (a3 : Bool) (a4 a5 a6 : Int) (r : Bool) (w : World) (hr0_2 : Kd.C (Kd.slice 52 k52) w A0_2 l0_2.length l0_2) (hc0_2 : l0_2.length ≤ c0_2) (h : standstilllaw10_LoopEver.f kk a0_0 a0_1 l0_2 a1 a2 a3 a4 a5 a6 = some r) :
    Calls Try.prog 5 #[.agg #[.int .i64 a0_0, .int .i64 a0_1, .slice A0_2 l0_2.length c0_2], .int .i64 a1, .int .i64 a2, .bool a3, .int .u16 a4, .int .u16 a5, .int .u16 a6] w fun e w' => e = .returned (.bool r) ∧ Below w.heap.size w w' := by
  unfold standstilllaw10_LoopEver.f at h
  obtain ⟨v, hv, h⟩ := Option.bind_eq_some_iff.1 h
  have HR := Aside0.mk hr0_2
  have HC := Aside0.mk hc0_2
  have H := Aside0.mk h
  have HVAL := Aside0.mk (fun W hW => standstillref10_Valid.calls kk a0_0 a0_1 A0_2 c0_2 l0_2 v W hW HC.out hv)
  have HAW := Aside0.mk (fun W hW => standstilllaw10_awake.calls kk r W hW)
  clear hr0_2 hc0_2 h hv
  go_enter Try.func5, Try.ntmps5
  go_wp2_with fail
  have HZ0 := Aside0.mk (blk_new w (.cells #[.int .i64 a0_0, .int .i64 a0_1, .slice A0_2 l0_2.length c0_2] 24))
  have HR0 := Aside0.mk (Kd.C_alloc HR.out (.cells #[.int .i64 a0_0, .int .i64 a0_1, .slice A0_2 l0_2.length c0_2] 24))
  have HB0 := Aside0.mk (below_alloc (Below.refl w.heap.size w) (.cells #[.int .i64 a0_0, .int .i64 a0_1, .slice A0_2 l0_2.length c0_2] 24))
  obtain ⟨W0, hW0⟩ : ∃ W : World, w.alloc (.cells #[.int .i64 a0_0, .int .i64 a0_1, .slice A0_2 l0_2.length c0_2] 24) = W := ⟨_, rfl⟩
  rw [hW0] at HZ0 HR0 HB0 ⊢
  clear hW0 HR
  refine (HVAL.out W0 HR0.out).mono ?_
  rintro e w1 ⟨rfl, hB1⟩
  have HB1 := Aside0.mk (below_step HB0.out hB1)
  have HR1 := Aside0.mk (Kd.C_below HR0.out hB1)
  have HZ1 := Aside0.mk (blk_below HZ0.out hB1)
  clear hB1 HB0 HR0 HZ0
  clear HVAL
  have hz1_0 := (blk_cell HZ1.out 0).trans rfl
  have hz1_1 := (blk_cell HZ1.out 1).trans rfl
  have hz1_2 := (blk_cell HZ1.out 2).trans rfl
  cases v with
  | false =>
    have h := H.out
    clear H
    simp only [Bool.false_eq_true, if_false] at h
    have H := Aside0.mk h
    clear h
    go_wp2_with fail
    refine (HAW.out _ H.out).mono ?_
    rintro e w9 ⟨rfl, hB9⟩
    go_wp2
    go_ret
    exact ⟨rfl, below_step HB1.out hB9⟩
  | true =>
  have h := H.out
  clear H
  simp only [if_true] at h
  by_cases k1 : a2 ≤ 1000
  rotate_left
  · rw [if_neg k1] at h
    have H := Aside0.mk h
    have k1a : (1000 < a2) = True := eq_true (by omega)
    have k1b : decide (1000 < a2) = true := decide_eq_true (by omega)
    clear h k1
    go_wp2_with fail
    refine (HAW.out _ H.out).mono ?_
    rintro e w9 ⟨rfl, hB9⟩
    go_wp2
    go_ret
    exact ⟨rfl, below_step HB1.out hB9⟩
  rw [if_pos k1] at h
  obtain ⟨⟨c1, c2⟩, hchk, h2⟩ := Option.bind_eq_some_iff.1 h
  simp only at h2
  clear h
  have h := h2
  clear h2
  have HCHK := Aside0.mk (fun W hW => loop_Check.calls kk a0_0 a0_1 A0_2 c0_2 l0_2 a1 a2 a3 c1 c2 W hW HC.out hchk)
  have H := Aside0.mk h
  have K1 := Aside0.mk k1
  have k1a : (1000 < a2) = False := eq_false (by omega)
  have k1b : decide (1000 < a2) = false := decide_eq_false (by omega)
  clear h hchk k1
  go_wp2_with fail
  refine (HCHK.out _ HR1.out).mono ?_
  rintro e w2 ⟨rfl, hB2⟩
  have HB2 := Aside0.mk (below_step HB1.out hB2)
  have HR2 := Aside0.mk (Kd.C_below HR1.out hB2)
  have HZ2 := Aside0.mk (blk_below HZ1.out hB2)
  clear hB2 HB1 HR1 HZ1 hz1_0 hz1_1 hz1_2
  clear HCHK k1a k1b
  have hz2_0 := (blk_cell HZ2.out 0).trans rfl
  have hz2_1 := (blk_cell HZ2.out 1).trans rfl
  have hz2_2 := (blk_cell HZ2.out 2).trans rfl
  cases c1 with
  | false =>
    have h := H.out
    clear H
    simp only [Bool.false_eq_true, if_false] at h
    have H := Aside0.mk h
    clear h
    go_wp2_with fail
    refine (HAW.out _ H.out).mono ?_
    rintro e w9 ⟨rfl, hB9⟩
    go_wp2
    go_ret
    exact ⟨rfl, below_step HB2.out hB9⟩
  | true =>
  have h := H.out
  clear H
  simp only [if_true] at h
  by_cases k2 : c2 = 0
  rotate_left
  · rw [if_neg k2] at h
    have H := Aside0.mk h
    have k2a : (c2 != (0 : Int)) = true := by simpa using k2
    clear h k2
    go_wp2_with fail
    refine (HAW.out _ H.out).mono ?_
    rintro e w9 ⟨rfl, hB9⟩
    go_wp2
    go_ret
    exact ⟨rfl, below_step HB2.out hB9⟩
  subst k2
  rw [if_pos rfl] at h
  by_cases k3 : 0 ≤ a4 ∧ a4 ≤ 65535 ∧ 0 ≤ a5 ∧ a5 ≤ 65535 ∧ 0 ≤ a6 ∧ a6 ≤ 65535 ∧ 0 ≤ a1 ∧ a1 < a2
  rotate_left
  · rw [if_neg k3] at h
    cases h
  rw [if_pos k3] at h
  obtain ⟨n0, n1, i0, i1, j0, j1, u0, u1⟩ := k3
  obtain ⟨r_, hgo, h2⟩ := Option.bind_eq_some_iff.1 h
  clear h
  obtain ⟨⟨t1, t2, t3⟩, haf, h3⟩ := Option.bind_eq_some_iff.1 h2
  clear h2
  obtain ⟨⟨d1, d2⟩, hc1, h4⟩ := Option.bind_eq_some_iff.1 h3
  clear h3
  obtain ⟨⟨e1, e2⟩, hc2, h⟩ := Option.bind_eq_some_iff.1 h4
  clear h4
  by_cases k4 : r_.st ≠ -1 ∧ (t1, t2, t3) = (r_.po, r_.st, (0 : Int)) ∧ (d1, d2) = (true, (0 : Int)) ∧ (e1, e2) = (true, (0 : Int))
  rotate_left
  · rw [if_neg k4] at h
    cases h
  rw [if_pos k4] at h
  obtain ⟨k5, k6, k7, k8⟩ := k4
  simp only [Prod.mk.injEq] at k6 k7 k8
  obtain ⟨rfl, rfl, rfl⟩ := k6
  obtain ⟨rfl, rfl⟩ := k7
  obtain ⟨rfl, rfl⟩ := k8
  obtain ⟨n, hn⟩ : ∃ n, a4 % 20001 = n := ⟨_, rfl⟩
  obtain ⟨i, hi⟩ : ∃ i, a5 % 200 = i := ⟨_, rfl⟩
  obtain ⟨j, hj⟩ : ∃ j, a6 % 4 = j := ⟨_, rfl⟩
  obtain ⟨p, hp⟩ : ∃ p, (1 + j) * (a2 - a1) = p := ⟨_, rfl⟩
  rw [hn] at hgo haf
  rw [hi] at hc1
  rw [hj, hp] at hc2
  have N0 : 0 ≤ n ∧ n ≤ 20000 := by omega
  have I0 : 0 ≤ i ∧ i ≤ 199 := by omega
  have J0 : 0 ≤ j ∧ j ≤ 3 := by omega
  have P0 : 0 ≤ p ∧ p ≤ 4000 := by
    rw [← hp]
    have hu : 0 ≤ a2 - a1 ∧ a2 - a1 ≤ 1000 := by have := K1.out; omega
    exact ⟨Int.mul_nonneg (by omega) hu.1, by have h4 := Int.mul_le_mul (show 1 + j ≤ 4 by omega) hu.2 hu.1 (by omega); omega⟩
  have HN := Aside0.mk N0
  have HAF := Aside0.mk (fun W hW => loop_After.calls kk a0_0 a0_1 A0_2 c0_2 l0_2 a1 a2 a3 n r_.po r_.st 0 W hW HC.out haf)
  have HC1 := Aside0.mk (fun W hW => loop_Check.calls kk a0_0 a0_1 A0_2 c0_2 l0_2 (a1 + i) (a2 + i) a3 true 0 W hW HC.out hc1)
  have HC2 := Aside0.mk (fun W hW => loop_Check.calls kk a0_0 a0_1 A0_2 c0_2 l0_2 a1 (a1 + p) a3 true 0 W hW HC.out hc2)
  have HGO := Aside0.mk hgo
  have H := Aside0.mk h
  have E1 := Aside0.mk (show wrap64 (a1 + i) = a1 + i from wrap_mid_ (by have := K1.out; omega))
  have E2 := Aside0.mk (show wrap64 (a2 + i) = a2 + i from wrap_mid_ (by have := K1.out; omega))
  have E3 := Aside0.mk (show wrap64 (a2 - a1) = a2 - a1 from wrap_mid_ (by have := K1.out; omega))
  have E4 := Aside0.mk (show wrap64 ((1 + j) * (a2 - a1)) = p by rw [hp]; exact wrap_mid_ (by omega))
  have E5 := Aside0.mk (show wrap64 (a1 + p) = a1 + p from wrap_mid_ (by have := K1.out; omega))
  have K5a := Aside0.mk (show (r_.st != (-1 : Int)) = true by simpa using k5)
  have U0 := Aside0.mk (show 0 ≤ a1 ∧ a1 < a2 from ⟨u0, u1⟩)
  clear h hgo haf hc1 hc2 hp k5 P0 N0 I0 J0 u0 u1
  go_wp2_with fail
  rw [hn, hi]
  refine (rr_begin a0_0 a0_1 A0_2 c0_2 l0_2 _).mono ?_
  rintro e w3 ⟨g, rfl, hI3, hB3⟩
  have HI3 := Aside0.mk hI3
  have HB3' := Aside0.mk hB3
  clear hI3 hn hi hj
  have u1 := HN.out
  go_wp2_with fail
  refine (rr_go A0_2 c0_2 l0_2 w2 w3 w2.heap.size (fun _ => True) g a0_0 a0_1 RR.new r_ n HI3.out HR2.out (Nat.le_refl _) HB3'.out HB3'.out.size (fun _ _ => trivial) (by omega) HGO.out).mono ?_
  rintro e w4 ⟨rfl, hI4, hB4, hKP4⟩
  have HI4 := Aside0.mk hI4
  have HB4 := Aside0.mk (below_step HB2.out hB4)
  have HR4 := Aside0.mk (Kd.C_below HR2.out hB4)
  have HZ4 := Aside0.mk (blk_below HZ2.out hB4)
  clear hI4 hB4 hKP4 HB2 HR2 HZ2 HB3' HI3 hB3 hz2_0 hz2_1 hz2_2
  have hz4_0 := (blk_cell HZ4.out 0).trans rfl
  have hz4_1 := (blk_cell HZ4.out 1).trans rfl
  have hz4_2 := (blk_cell HZ4.out 2).trans rfl
  go_wp2_with fail
  refine (HAF.out _ HR4.out).mono ?_
  rintro e w5 ⟨rfl, hB5⟩
  have HB5 := Aside0.mk (below_step HB4.out hB5)
  have HR5 := Aside0.mk (Kd.C_below HR4.out hB5)
  have HZ5 := Aside0.mk (blk_below HZ4.out hB5)
  have HI5 := Aside0.mk (HI4.out.below hB5)
  clear hB5 HB4 HR4 HZ4 HI4 hz4_0 hz4_1 hz4_2
  have hz5_0 := (blk_cell HZ5.out 0).trans rfl
  have hz5_1 := (blk_cell HZ5.out 1).trans rfl
  have hz5_2 := (blk_cell HZ5.out 2).trans rfl
  have e1 := E1.out
  have e2 := E2.out
  go_wp2_with fail
  refine (HC1.out _ HR5.out).mono ?_
  rintro e w6 ⟨rfl, hB6⟩
  have HB6 := Aside0.mk (below_step HB5.out hB6)
  have HR6 := Aside0.mk (Kd.C_below HR5.out hB6)
  have HZ6 := Aside0.mk (blk_below HZ5.out hB6)
  have HI6 := Aside0.mk (HI5.out.below hB6)
  clear hB6 HB5 HR5 HZ5 HI5 hz5_0 hz5_1 hz5_2
  have hz6_0 := (blk_cell HZ6.out 0).trans rfl
  have hz6_1 := (blk_cell HZ6.out 1).trans rfl
  have hz6_2 := (blk_cell HZ6.out 2).trans rfl
  clear e1 e2
  have e3 := E3.out
  have e4 := E4.out
  have e5 := E5.out
  go_wp2_with fail
  refine (HC2.out _ HR6.out).mono ?_
  rintro e w7 ⟨rfl, hB7⟩
  have HB7 := Aside0.mk (below_step HB6.out hB7)
  have HR7 := Aside0.mk (Kd.C_below HR6.out hB7)
  have HZ7 := Aside0.mk (blk_below HZ6.out hB7)
  have HI7 := Aside0.mk (HI6.out.below hB7)
  clear hB7 HB6 HR6 HZ6 HI6 hz6_0 hz6_1 hz6_2
  have hz7_0 := (blk_cell HZ7.out 0).trans rfl
  have hz7_1 := (blk_cell HZ7.out 1).trans rfl
  have hz7_2 := (blk_cell HZ7.out 2).trans rfl
  clear e3 e4 e5
  obtain ⟨hp3, hp4, _⟩ := HI7.out.at_st
  have k5a := K5a.out
  go_wp2_with fail
  refine (HAW.out _ H.out).mono ?_
  rintro e w9 ⟨rfl, hB9⟩
  go_wp2
  go_ret
  exact ⟨rfl, below_step HB7.out hB9⟩

/-- THE ONE PURE STATEMENT of standstilllaw10_LoopEver. -/
def standstilllaw10_LoopEver.Pure : Prop := ∀ (a0_0 : Int) (a0_1 : Int) (l0_2 : List (List (S52))) (a1 : Int) (a2 : Int) (a3 : Bool) (a4 : Int) (a5 : Int) (a6 : Int), ((Lit.int .i64 a0_0).wf = true) → ((Lit.int .i64 a0_1).wf = true) → (l0_2.length * 24 ≤ 140737488351232 ∧ ∀ y_ ∈ l0_2, (y_.length * 24 ≤ 140737488351232 ∧ ∀ y__ ∈ y_, inv52 y__)) → ((Lit.int .i64 a1).wf = true) → ((Lit.int .i64 a2).wf = true) → ((Lit.int .u16 a4).wf = true) → ((Lit.int .u16 a5).wf = true) → ((Lit.int .u16 a6).wf = true) → ∃ k, standstilllaw10_LoopEver.f k a0_0 a0_1 l0_2 a1 a2 a3 a4 a5 a6 = some true

end Go.Proofs.Ytngmdidegmbpfaa.PLoopEver
