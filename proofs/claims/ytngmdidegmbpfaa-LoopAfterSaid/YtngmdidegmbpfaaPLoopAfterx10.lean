-- out of a turned copy of the print, by a program of this session; Lean checks it
import Derived.Test.YtngmdidegmbpfaaPLoopAfterx0
import Derived.Test.YtngmdidegmbpfaaPLoopAfterx5
import Derived.Test.YtngmdidegmbpfaaPLoopAfterx6
import Derived.Test.YtngmdidegmbpfaaPLoopAfterx7
import Derived.Test.YtngmdidegmbpfaaPLoopAfterx9
namespace Go.Proofs.Ytngmdidegmbpfaa.PLoopAfter
open Go.RowKit Go.Proofs.YtngmdidegmbpfaaW.PrintWords Go.Proofs.YtngmdidegmbpfaaW.PrintLast Go.Proofs.YtngmdidegmbpfaaW.PrintMore
attribute [local go_sem] max2_int min2_int max_two min_two max_three min_three max_four min_four   -- for this text's walks alone
set_option linter.unusedVariables false
set_option linter.unusedSimpArgs false

attribute [local go_sem] isSome_put_
/-! ### standstilllaw10_LoopAfter: function 4 (by hand) -/
def standstilllaw10_LoopAfter.f (kk : Nat) (a0 a1 : Int) (rules : List (List (S52))) (a b : Int) (right : Bool) (k : Int) : Option Bool :=
  if 2000 < b ∧ b ≤ 1000000 then standstilllaw10_awake.f kk else
  (loop_After.f kk a0 a1 rules a b right k).bind fun t => (standstillref10_Valid.f kk a0 a1 rules).bind fun v =>
    if v = true then
      (if a < 0 ∨ b ≤ a ∨ 1000000 < b ∨ k < 0 ∨ 1152921504606846976 < k then (if t = (0, 0, 2) then standstilllaw10_awake.f kk else none)
      else (standstillref10_Side.f kk a0 a1 rules a b right).bind fun sd =>
        if sd = true then
          (if right = true then (standstillref10_After.f rules a b k).bind fun q => if t = (q.1, q.2, 0) then standstilllaw10_awake.f kk else none
          else (standstillref10_Mirror.f kk a0 a1 rules).bind fun n => (standstillref10_After.f n.2.2 a b k).bind fun q => if t = (wrap64 (0 - q.1), q.2, 0) then standstilllaw10_awake.f kk else none)
        else (if t = (0, 0, 6) then standstilllaw10_awake.f kk else none))
    else (if t = (0, 0, 1) then standstilllaw10_awake.f kk else none)
theorem standstilllaw10_LoopAfter.mono : ∀ a0 a1 a2 a3 a4 a5 a6 k, LeO (standstilllaw10_LoopAfter.f k a0 a1 a2 a3 a4 a5 a6) (standstilllaw10_LoopAfter.f (k + 1) a0 a1 a2 a3 a4 a5 a6) := by
  intro a0 a1 a2 a3 a4 a5 a6 k
  unfold standstilllaw10_LoopAfter.f
  repeat' first
    | (with_reducible exact standstilllaw10_awake.mono _)
    | (with_reducible exact loop_After.mono _ _ _ _ _ _ _ _)
    | (with_reducible exact standstillref10_Valid.mono _ _ _ _)
    | (with_reducible exact standstillref10_Side.mono _ _ _ _ _ _ _)
    | (with_reducible exact standstillref10_Mirror.mono _ _ _ _)
    | (with_reducible exact LeO.refl _)
    | (with_reducible refine LeO.ite ?_ ?_)
    | (with_reducible refine LeO.bind ?_ (fun _ => ?_))
set_option maxHeartbeats 8000000 in
set_option maxRecDepth 100000 in
theorem standstilllaw10_LoopAfter.calls (kk : Nat) (a0_0 a0_1 : Int) (A0_2 : Option Addr) (c0_2 : Nat) (l0_2 : List (List (S52))) (a1 a2 : Int) (a3 : Bool) (a4 : Int) (r : Bool) (w : World) (hr0_2 : Kd.C (Kd.slice 52 k52) w A0_2 l0_2.length l0_2) (hc0_2 : l0_2.length ≤ c0_2) (h : standstilllaw10_LoopAfter.f kk a0_0 a0_1 l0_2 a1 a2 a3 a4 = some r) :
    Calls Try.prog 4 #[.agg #[.int .i64 a0_0, .int .i64 a0_1, .slice A0_2 l0_2.length c0_2], .int .i64 a1, .int .i64 a2, .bool a3, .int .i64 a4] w fun e w' => e = .returned (.bool r) ∧ Below w.heap.size w w' := by
  unfold standstilllaw10_LoopAfter.f at h
  have HR := Aside0.mk hr0_2
  have HC := Aside0.mk hc0_2
  have HAW := Aside0.mk (fun W hW => standstilllaw10_awake.calls kk r W hW)
  clear hr0_2 hc0_2
  have HZ0 := Aside0.mk (blk_new w (.cells #[.int .i64 a0_0, .int .i64 a0_1, .slice A0_2 l0_2.length c0_2] 24))
  have HR0 := Aside0.mk (Kd.C_alloc HR.out (.cells #[.int .i64 a0_0, .int .i64 a0_1, .slice A0_2 l0_2.length c0_2] 24))
  have HB0 := Aside0.mk (below_alloc (Below.refl w.heap.size w) (.cells #[.int .i64 a0_0, .int .i64 a0_1, .slice A0_2 l0_2.length c0_2] 24))
  by_cases k1 : 2000 < a2 ∧ a2 ≤ 1000000
  · rw [if_pos k1] at h
    have H := Aside0.mk h
    have k1a : decide (2000 < a2) = true := decide_eq_true k1.1
    have k1b : decide (a2 ≤ 1000000) = true := decide_eq_true k1.2
    have k1c : (2000 < a2) = True := eq_true k1.1
    have k1d : (a2 ≤ 1000000) = True := eq_true k1.2
    clear h k1
    go_enter Try.func4, Try.ntmps4
    go_wp2_with fail
    refine (HAW.out _ H.out).mono ?_
    rintro e w9 ⟨rfl, hB9⟩
    go_wp2
    go_ret
    exact ⟨rfl, below_step HB0.out hB9⟩
  rw [if_neg k1] at h
  have K1 := Aside0.mk k1
  obtain ⟨⟨t1, t2, t3⟩, haf, h1⟩ := Option.bind_eq_some_iff.1 h
  obtain ⟨v, hv, h2⟩ := Option.bind_eq_some_iff.1 h1
  have HAF := Aside0.mk (fun W hW => loop_After.calls kk a0_0 a0_1 A0_2 c0_2 l0_2 a1 a2 a3 a4 t1 t2 t3 W hW HC.out haf)
  have HVAL := Aside0.mk (fun W hW => standstillref10_Valid.calls kk a0_0 a0_1 A0_2 c0_2 l0_2 v W hW HC.out hv)
  have H := Aside0.mk h2
  clear h h1 h2 haf hv k1
  go_enter Try.func4, Try.ntmps4
  by_cases kA : a2 ≤ 2000
  · skip

    have kAb : (2000 < a2) = False := eq_false (by omega)
    have kAc : decide (2000 < a2) = false := decide_eq_false (by omega)
    have KA := Aside0.mk kA
    clear kA
    go_wp2_with fail
    obtain ⟨W0, hW0⟩ : ∃ W : World, w.alloc (.cells #[.int .i64 a0_0, .int .i64 a0_1, .slice A0_2 l0_2.length c0_2] 24) = W := ⟨_, rfl⟩
    obtain ⟨z, hz⟩ : ∃ z, w.heap.size = z := ⟨_, rfl⟩
    have HZE := Aside0.mk (Nat.le_of_eq hz)
    rw [hW0] at HZ0 HR0 HB0 ⊢
    rw [hz] at HZ0 ⊢
    clear hW0 hz
    refine (HAF.out W0 HR0.out).mono ?_
    rintro e w1 ⟨rfl, hB1⟩
    have HB1 := Aside0.mk (below_step HB0.out hB1)
    have HR1 := Aside0.mk (Kd.C_below HR0.out hB1)
    have HZ1 := Aside0.mk (blk_below HZ0.out hB1)
    clear hB1
    clear HZ0 HB0 HR0 HAF
    have hz1_0 := (blk_cell HZ1.out 0).trans rfl
    have hz1_1 := (blk_cell HZ1.out 1).trans rfl
    have hz1_2 := (blk_cell HZ1.out 2).trans rfl
    go_wp2_with fail
    refine (HVAL.out w1 HR1.out).mono ?_
    rintro e w2 ⟨rfl, hB2⟩
    have HB2 := Aside0.mk (below_step HB1.out hB2)
    have HR2 := Aside0.mk (Kd.C_below HR1.out hB2)
    have HZ2 := Aside0.mk (blk_below HZ1.out hB2)
    clear hB2
    clear hz1_0 hz1_1 hz1_2
    clear HZ1 HB1 HR1 HVAL
    clear kAb kAc
    have hz2_0 := (blk_cell HZ2.out 0).trans rfl
    have hz2_1 := (blk_cell HZ2.out 1).trans rfl
    have hz2_2 := (blk_cell HZ2.out 2).trans rfl
    cases v with
    | false =>
      have h := H.out
      clear H
      simp only [Bool.false_eq_true, if_false] at h
      have H := Aside0.mk h
      clear h
      have h := H.out
      clear H
      by_cases kt : (t1, t2, t3) = ((0 : Int), (0 : Int), (1 : Int))
      rotate_left
      · rw [if_neg kt] at h
        cases h
      rw [if_pos kt] at h
      simp only [Prod.mk.injEq] at kt
      obtain ⟨rfl, rfl, rfl⟩ := kt
      have H := Aside0.mk h
      clear h
      go_wp2_with fail
      refine (HAW.out _ H.out).mono ?_
      rintro e w9 ⟨rfl, hB9⟩
      go_wp2
      go_ret
      exact ⟨rfl, below_step HB2.out hB9⟩
    | true =>
    have h := H.out
    clear H
    simp only [if_true] at h
    by_cases kq : a1 < 0 ∨ a2 ≤ a1 ∨ 1000000 < a2 ∨ a4 < 0 ∨ 1152921504606846976 < a4
    · rw [if_pos kq] at h
      have H := Aside0.mk h
      clear h
      have KQ := Aside0.mk kq
      clear kq
      by_cases q0 : a1 < 0
      · skip
        have kf0 : (a1 < 0) = True := eq_true (by first | assumption | (have := KA.out; have := K1.out; omega))
        have kg0 : decide (a1 < 0) = true := decide_eq_true (by first | assumption | (have := KA.out; have := K1.out; omega))
        clear q0
        have h := H.out
        clear H
        by_cases kt : (t1, t2, t3) = ((0 : Int), (0 : Int), (2 : Int))
        rotate_left
        · rw [if_neg kt] at h
          cases h
        rw [if_pos kt] at h
        simp only [Prod.mk.injEq] at kt
        obtain ⟨rfl, rfl, rfl⟩ := kt
        have H := Aside0.mk h
        clear h
        go_wp2_with fail
        refine (HAW.out _ H.out).mono ?_
        rintro e w9 ⟨rfl, hB9⟩
        go_wp2
        go_ret
        exact ⟨rfl, below_step HB2.out hB9⟩
      by_cases q1 : a2 ≤ a1
      · skip
        have kf0 : (a1 < 0) = False := eq_false (by first | assumption | (have := KA.out; have := K1.out; omega))
        have kg0 : decide (a1 < 0) = false := decide_eq_false (by first | assumption | (have := KA.out; have := K1.out; omega))
        have kf1 : (a2 ≤ a1) = True := eq_true (by first | assumption | (have := KA.out; have := K1.out; omega))
        have kg1 : decide (a2 ≤ a1) = true := decide_eq_true (by first | assumption | (have := KA.out; have := K1.out; omega))
        clear q0 q1
        have h := H.out
        clear H
        by_cases kt : (t1, t2, t3) = ((0 : Int), (0 : Int), (2 : Int))
        rotate_left
        · rw [if_neg kt] at h
          cases h
        rw [if_pos kt] at h
        simp only [Prod.mk.injEq] at kt
        obtain ⟨rfl, rfl, rfl⟩ := kt
        have H := Aside0.mk h
        clear h
        go_wp2_with fail
        refine (HAW.out _ H.out).mono ?_
        rintro e w9 ⟨rfl, hB9⟩
        go_wp2
        go_ret
        exact ⟨rfl, below_step HB2.out hB9⟩
      by_cases q3 : a4 < 0
      · skip
        have kf0 : (a1 < 0) = False := eq_false (by first | assumption | (have := KA.out; have := K1.out; omega))
        have kg0 : decide (a1 < 0) = false := decide_eq_false (by first | assumption | (have := KA.out; have := K1.out; omega))
        have kf1 : (a2 ≤ a1) = False := eq_false (by first | assumption | (have := KA.out; have := K1.out; omega))
        have kg1 : decide (a2 ≤ a1) = false := decide_eq_false (by first | assumption | (have := KA.out; have := K1.out; omega))
        have kf2 : (1000000 < a2) = False := eq_false (by first | assumption | (have := KA.out; have := K1.out; omega))
        have kg2 : decide (1000000 < a2) = false := decide_eq_false (by first | assumption | (have := KA.out; have := K1.out; omega))
        have kf3 : (a4 < 0) = True := eq_true (by first | assumption | (have := KA.out; have := K1.out; omega))
        have kg3 : decide (a4 < 0) = true := decide_eq_true (by first | assumption | (have := KA.out; have := K1.out; omega))
        clear q0 q1 q3
        have h := H.out
        clear H
        by_cases kt : (t1, t2, t3) = ((0 : Int), (0 : Int), (2 : Int))
        rotate_left
        · rw [if_neg kt] at h
          cases h
        rw [if_pos kt] at h
        simp only [Prod.mk.injEq] at kt
        obtain ⟨rfl, rfl, rfl⟩ := kt
        have H := Aside0.mk h
        clear h
        go_wp2_with fail
        refine (HAW.out _ H.out).mono ?_
        rintro e w9 ⟨rfl, hB9⟩
        go_wp2
        go_ret
        exact ⟨rfl, below_step HB2.out hB9⟩
      have q4 : 1152921504606846976 < a4 := by have := KQ.out; have := KA.out; omega
      have kf0 : (a1 < 0) = False := eq_false (by first | assumption | (have := KA.out; have := K1.out; omega))
      have kg0 : decide (a1 < 0) = false := decide_eq_false (by first | assumption | (have := KA.out; have := K1.out; omega))
      have kf1 : (a2 ≤ a1) = False := eq_false (by first | assumption | (have := KA.out; have := K1.out; omega))
      have kg1 : decide (a2 ≤ a1) = false := decide_eq_false (by first | assumption | (have := KA.out; have := K1.out; omega))
      have kf3 : (a4 < 0) = False := eq_false (by first | assumption | (have := KA.out; have := K1.out; omega))
      have kg3 : decide (a4 < 0) = false := decide_eq_false (by first | assumption | (have := KA.out; have := K1.out; omega))
      have kf2 : (1000000 < a2) = False := eq_false (by first | assumption | (have := KA.out; have := K1.out; omega))
      have kg2 : decide (1000000 < a2) = false := decide_eq_false (by first | assumption | (have := KA.out; have := K1.out; omega))
      have kf4 : (1152921504606846976 < a4) = True := eq_true (by first | assumption | (have := KA.out; have := K1.out; omega))
      have kg4 : decide (1152921504606846976 < a4) = true := decide_eq_true (by first | assumption | (have := KA.out; have := K1.out; omega))
      clear q0 q1 q3 q4
      have h := H.out
      clear H
      by_cases kt : (t1, t2, t3) = ((0 : Int), (0 : Int), (2 : Int))
      rotate_left
      · rw [if_neg kt] at h
        cases h
      rw [if_pos kt] at h
      simp only [Prod.mk.injEq] at kt
      obtain ⟨rfl, rfl, rfl⟩ := kt
      have H := Aside0.mk h
      clear h
      go_wp2_with fail
      refine (HAW.out _ H.out).mono ?_
      rintro e w9 ⟨rfl, hB9⟩
      go_wp2
      go_ret
      exact ⟨rfl, below_step HB2.out hB9⟩
    rw [if_neg kq] at h
    have KQ := Aside0.mk kq
    have kf0 : (a1 < 0) = False := eq_false (by first | (have := KQ.out; omega) | (have := KA.out; have := K1.out; omega))
    have kg0 : decide (a1 < 0) = false := decide_eq_false (by first | (have := KQ.out; omega) | (have := KA.out; have := K1.out; omega))
    have kf1 : (a2 ≤ a1) = False := eq_false (by first | (have := KQ.out; omega) | (have := KA.out; have := K1.out; omega))
    have kg1 : decide (a2 ≤ a1) = false := decide_eq_false (by first | (have := KQ.out; omega) | (have := KA.out; have := K1.out; omega))
    have kf2 : (1000000 < a2) = False := eq_false (by first | (have := KQ.out; omega) | (have := KA.out; have := K1.out; omega))
    have kg2 : decide (1000000 < a2) = false := decide_eq_false (by first | (have := KQ.out; omega) | (have := KA.out; have := K1.out; omega))
    have kf3 : (a4 < 0) = False := eq_false (by first | (have := KQ.out; omega) | (have := KA.out; have := K1.out; omega))
    have kg3 : decide (a4 < 0) = false := decide_eq_false (by first | (have := KQ.out; omega) | (have := KA.out; have := K1.out; omega))
    have kf4 : (1152921504606846976 < a4) = False := eq_false (by first | (have := KQ.out; omega) | (have := KA.out; have := K1.out; omega))
    have kg4 : decide (1152921504606846976 < a4) = false := decide_eq_false (by first | (have := KQ.out; omega) | (have := KA.out; have := K1.out; omega))
    obtain ⟨sd, hsd, h1⟩ := Option.bind_eq_some_iff.1 h
    have HSD := Aside0.mk (fun W hW => standstillref10_Side.calls kk a0_0 a0_1 A0_2 c0_2 l0_2 a1 a2 a3 sd W hW HC.out hsd)
    have H := Aside0.mk h1
    clear h h1 hsd kq
    go_wp2_with fail
    refine (HSD.out w2 HR2.out).mono ?_
    rintro e w3 ⟨rfl, hB3⟩
    have HB3 := Aside0.mk (below_step HB2.out hB3)
    have HR3 := Aside0.mk (Kd.C_below HR2.out hB3)
    have HZ3 := Aside0.mk (blk_below HZ2.out hB3)
    clear hB3
    clear hz2_0 hz2_1 hz2_2
    clear HZ2 HB2 HR2 HSD kf0 kg0 kf1 kg1 kf2 kg2 kf3 kg3 kf4 kg4
    have hz3_0 := (blk_cell HZ3.out 0).trans rfl
    have hz3_1 := (blk_cell HZ3.out 1).trans rfl
    have hz3_2 := (blk_cell HZ3.out 2).trans rfl
    cases sd with
    | false =>
      have h := H.out
      clear H
      simp only [Bool.false_eq_true, if_false] at h
      have H := Aside0.mk h
      clear h
      have h := H.out
      clear H
      by_cases kt : (t1, t2, t3) = ((0 : Int), (0 : Int), (6 : Int))
      rotate_left
      · rw [if_neg kt] at h
        cases h
      rw [if_pos kt] at h
      simp only [Prod.mk.injEq] at kt
      obtain ⟨rfl, rfl, rfl⟩ := kt
      have H := Aside0.mk h
      clear h
      go_wp2_with fail
      refine (HAW.out _ H.out).mono ?_
      rintro e w9 ⟨rfl, hB9⟩
      go_wp2
      go_ret
      exact ⟨rfl, below_step HB3.out hB9⟩
    | true =>
    have h := H.out
    clear H
    simp only [if_true] at h
    cases a3 with
    | true =>
      simp only [if_true] at h
      obtain ⟨⟨q1, q2⟩, hq, h1⟩ := Option.bind_eq_some_iff.1 h
      clear h
      simp only at h1
      by_cases kt : (t1, t2, t3) = (q1, q2, (0 : Int))
      rotate_left
      · rw [if_neg kt] at h1
        cases h1
      rw [if_pos kt] at h1
      simp only [Prod.mk.injEq] at kt
      obtain ⟨rfl, rfl, rfl⟩ := kt
      have H := Aside0.mk h1
      have HQ := Aside0.mk hq
      clear h1 hq
      go_wp2_with fail
      refine (standstillref10_After.calls a0_0 a0_1 A0_2 c0_2 l0_2 a1 a2 a4 _ _ _ (Kd.C_alloc HR3.out (.cells #[.int .i64 a0_0, .int .i64 a0_1, .slice A0_2 l0_2.length c0_2] 24)) HQ.out).mono ?_
      rintro e w5 ⟨rfl, hB5⟩
      have HB5 := Aside0.mk (below_step (below_alloc HB3.out (.cells #[.int .i64 a0_0, .int .i64 a0_1, .slice A0_2 l0_2.length c0_2] 24)) hB5)
      clear hB5 hz3_0 hz3_1 hz3_2
      go_wp2_with fail
      refine (HAW.out _ H.out).mono ?_
      rintro e w9 ⟨rfl, hB9⟩
      go_wp2
      go_ret
      exact ⟨rfl, below_step HB5.out hB9⟩
    | false =>
      simp only [Bool.false_eq_true, if_false] at h
      obtain ⟨⟨n1, n2, l2⟩, hm, h0⟩ := Option.bind_eq_some_iff.1 h
      obtain ⟨⟨q1, q2⟩, hq, h1⟩ := Option.bind_eq_some_iff.1 h0
      clear h h0
      simp only at h1 hq
      obtain ⟨u, hu⟩ : ∃ u, wrap64 (0 - q1) = u := ⟨_, rfl⟩
      rw [hu] at h1
      by_cases kt : (t1, t2, t3) = (u, q2, (0 : Int))
      rotate_left
      · rw [if_neg kt] at h1
        cases h1
      rw [if_pos kt] at h1
      simp only [Prod.mk.injEq] at kt
      obtain ⟨rfl, rfl, rfl⟩ := kt
      have H := Aside0.mk h1
      have HQ := Aside0.mk hq
      have HM := Aside0.mk hm
      have HU := Aside0.mk hu
      clear h1 hq hm hu
      have hz4_0 := (blk_cell (blk_below HZ3.out (below_alloc (Below.refl w3.heap.size w3) (.cells #[.int .i64 a0_0, .int .i64 a0_1, .slice A0_2 l0_2.length c0_2] 24))) 0).trans rfl
      have hz4_1 := (blk_cell (blk_below HZ3.out (below_alloc (Below.refl w3.heap.size w3) (.cells #[.int .i64 a0_0, .int .i64 a0_1, .slice A0_2 l0_2.length c0_2] 24))) 1).trans rfl
      have hz4_2 := (blk_cell (blk_below HZ3.out (below_alloc (Below.refl w3.heap.size w3) (.cells #[.int .i64 a0_0, .int .i64 a0_1, .slice A0_2 l0_2.length c0_2] 24))) 2).trans rfl
      go_wp2_with fail
      refine (standstillref10_Mirror.calls kk a0_0 a0_1 A0_2 c0_2 l0_2 n1 n2 l2 _ (Kd.C_alloc HR3.out (.cells #[.int .i64 a0_0, .int .i64 a0_1, .slice A0_2 l0_2.length c0_2] 24)) HC.out HM.out).mono ?_
      rintro e w5 ⟨v5, rfl, ho5, hB5⟩
      obtain ⟨A5, c5, rfl⟩ := Kd.S_slice ho5
      have HY5 := Aside0.mk (blk_below (blk_new w3 (.cells #[.int .i64 a0_0, .int .i64 a0_1, .slice A0_2 l0_2.length c0_2] 24)) hB5)
      have HYL : Aside0 (w3.heap.size < (w3.alloc (.cells #[.int .i64 a0_0, .int .i64 a0_1, .slice A0_2 l0_2.length c0_2] 24)).heap.size) := ⟨by simp⟩
      have HYW := Aside0.mk HB3.out.size
      have HO5 := Aside0.mk ho5
      have HB5 := Aside0.mk (below_step (below_alloc HB3.out (.cells #[.int .i64 a0_0, .int .i64 a0_1, .slice A0_2 l0_2.length c0_2] 24)) hB5)
      clear hB5 ho5 hz4_0 hz4_1 hz4_2 hz3_0 hz3_1 hz3_2 HB3 HR3 HZ3
      obtain ⟨y, hy⟩ : ∃ y, w3.heap.size = y := ⟨_, rfl⟩
      rw [hy] at HY5 HYL HYW ⊢
      clear hy
      have hy5_0 := (blk_cell HY5.out 0).trans rfl
      have hy5_1 := (blk_cell HY5.out 1).trans rfl
      have hy5_2 := (blk_cell HY5.out 2).trans rfl
      have hf5_0 := blk_frozen HY5.out 0
      have hf5_1 := blk_frozen HY5.out 1
      have hf5_2 := blk_frozen HY5.out 2
      go_wp2_with fail
      have HO8 := Aside0.mk (Kd.S_far (p := ⟨y, 2, none⟩) (Kd.S_far (p := ⟨y, 1, none⟩) (Kd.S_far (p := ⟨y, 0, none⟩) (Kd.S_bound HO5.out) (fun k hk => by have h1 := hk.2.1; have h2 := HYL.out; show k ≠ y; omega) (.int .i64 n1)) (fun k hk => by have h1 := hk.2.1; have h2 := HYL.out; show k ≠ y; omega) (.int .i64 n2)) (fun k hk => by have h1 := hk.2.1; have h2 := HYL.out; show k ≠ y; omega) (.slice A5 l2.length c5))
      have HB8 := Aside0.mk (((HB5.out.setCell (p := ⟨y, 0, none⟩) HYW.out (.int .i64 n1)).setCell (p := ⟨y, 1, none⟩) HYW.out (.int .i64 n2)).setCell (p := ⟨y, 2, none⟩) HYW.out (.slice A5 l2.length c5))
      refine (standstillref10_After.calls n1 n2 A5 c5 l2 a1 a2 a4 _ _ _ (Kd.S_reads' HO8.out).2.2 HQ.out).mono ?_
      rintro e w6 ⟨rfl, hB6⟩
      have HB6 := Aside0.mk (below_step HB8.out hB6)
      clear hB6 hy5_0 hy5_1 hy5_2 hf5_0 hf5_1 hf5_2 HB5 HB8 HO5 HO8 HYL HYW HY5
      have e1 := HU.out
      have e2 : IntKind.i64.wrap (0 - q1) = t1 := (i64_w _).trans e1
      have e3 : wrap64 (-q1) = t1 := by rw [← Int.zero_sub]; exact e1
      have e4 : IntKind.i64.wrap (-q1) = t1 := (i64_w _).trans e3
      go_wp2_with fail
      refine (HAW.out _ H.out).mono ?_
      rintro e w9 ⟨rfl, hB9⟩
      go_wp2
      go_ret
      exact ⟨rfl, below_step HB6.out hB9⟩
  · skip
    have kAb : (2000 < a2) = True := eq_true (by omega)
    have kAc : decide (2000 < a2) = true := decide_eq_true (by omega)
    have kAd : (a2 ≤ 1000000) = False := eq_false (by have := K1.out; omega)
    have kAe : decide (a2 ≤ 1000000) = false := decide_eq_false (by have := K1.out; omega)
    have KA := Aside0.mk kA
    clear kA
    go_wp2_with fail
    obtain ⟨W0, hW0⟩ : ∃ W : World, w.alloc (.cells #[.int .i64 a0_0, .int .i64 a0_1, .slice A0_2 l0_2.length c0_2] 24) = W := ⟨_, rfl⟩
    obtain ⟨z, hz⟩ : ∃ z, w.heap.size = z := ⟨_, rfl⟩
    have HZE := Aside0.mk (Nat.le_of_eq hz)
    rw [hW0] at HZ0 HR0 HB0 ⊢
    rw [hz] at HZ0 ⊢
    clear hW0 hz
    refine (HAF.out W0 HR0.out).mono ?_
    rintro e w1 ⟨rfl, hB1⟩
    have HB1 := Aside0.mk (below_step HB0.out hB1)
    have HR1 := Aside0.mk (Kd.C_below HR0.out hB1)
    have HZ1 := Aside0.mk (blk_below HZ0.out hB1)
    clear hB1
    clear HZ0 HB0 HR0 HAF
    have hz1_0 := (blk_cell HZ1.out 0).trans rfl
    have hz1_1 := (blk_cell HZ1.out 1).trans rfl
    have hz1_2 := (blk_cell HZ1.out 2).trans rfl
    go_wp2_with fail
    refine (HVAL.out w1 HR1.out).mono ?_
    rintro e w2 ⟨rfl, hB2⟩
    have HB2 := Aside0.mk (below_step HB1.out hB2)
    have HR2 := Aside0.mk (Kd.C_below HR1.out hB2)
    have HZ2 := Aside0.mk (blk_below HZ1.out hB2)
    clear hB2
    clear hz1_0 hz1_1 hz1_2
    clear HZ1 HB1 HR1 HVAL
    clear kAb kAc kAd kAe
    have hz2_0 := (blk_cell HZ2.out 0).trans rfl
    have hz2_1 := (blk_cell HZ2.out 1).trans rfl
    have hz2_2 := (blk_cell HZ2.out 2).trans rfl
    cases v with
    | false =>
      have h := H.out
      clear H
      simp only [Bool.false_eq_true, if_false] at h
      have H := Aside0.mk h
      clear h
      have h := H.out
      clear H
      by_cases kt : (t1, t2, t3) = ((0 : Int), (0 : Int), (1 : Int))
      rotate_left
      · rw [if_neg kt] at h
        cases h
      rw [if_pos kt] at h
      simp only [Prod.mk.injEq] at kt
      obtain ⟨rfl, rfl, rfl⟩ := kt
      have H := Aside0.mk h
      clear h
      go_wp2_with fail
      refine (HAW.out _ H.out).mono ?_
      rintro e w9 ⟨rfl, hB9⟩
      go_wp2
      go_ret
      exact ⟨rfl, below_step HB2.out hB9⟩
    | true =>
    have h := H.out
    clear H
    simp only [if_true] at h
    by_cases kq : a1 < 0 ∨ a2 ≤ a1 ∨ 1000000 < a2 ∨ a4 < 0 ∨ 1152921504606846976 < a4
    · rw [if_pos kq] at h
      have H := Aside0.mk h
      clear h
      have KQ := Aside0.mk kq
      clear kq
      by_cases q0 : a1 < 0
      · skip
        have kf0 : (a1 < 0) = True := eq_true (by first | assumption | (have := KA.out; have := K1.out; omega))
        have kg0 : decide (a1 < 0) = true := decide_eq_true (by first | assumption | (have := KA.out; have := K1.out; omega))
        clear q0
        have h := H.out
        clear H
        by_cases kt : (t1, t2, t3) = ((0 : Int), (0 : Int), (2 : Int))
        rotate_left
        · rw [if_neg kt] at h
          cases h
        rw [if_pos kt] at h
        simp only [Prod.mk.injEq] at kt
        obtain ⟨rfl, rfl, rfl⟩ := kt
        have H := Aside0.mk h
        clear h
        go_wp2_with fail
        refine (HAW.out _ H.out).mono ?_
        rintro e w9 ⟨rfl, hB9⟩
        go_wp2
        go_ret
        exact ⟨rfl, below_step HB2.out hB9⟩
      by_cases q1 : a2 ≤ a1
      · skip
        have kf0 : (a1 < 0) = False := eq_false (by first | assumption | (have := KA.out; have := K1.out; omega))
        have kg0 : decide (a1 < 0) = false := decide_eq_false (by first | assumption | (have := KA.out; have := K1.out; omega))
        have kf1 : (a2 ≤ a1) = True := eq_true (by first | assumption | (have := KA.out; have := K1.out; omega))
        have kg1 : decide (a2 ≤ a1) = true := decide_eq_true (by first | assumption | (have := KA.out; have := K1.out; omega))
        clear q0 q1
        have h := H.out
        clear H
        by_cases kt : (t1, t2, t3) = ((0 : Int), (0 : Int), (2 : Int))
        rotate_left
        · rw [if_neg kt] at h
          cases h
        rw [if_pos kt] at h
        simp only [Prod.mk.injEq] at kt
        obtain ⟨rfl, rfl, rfl⟩ := kt
        have H := Aside0.mk h
        clear h
        go_wp2_with fail
        refine (HAW.out _ H.out).mono ?_
        rintro e w9 ⟨rfl, hB9⟩
        go_wp2
        go_ret
        exact ⟨rfl, below_step HB2.out hB9⟩
      have q2 : 1000000 < a2 := by have := K1.out; have := KA.out; omega
      have kf0 : (a1 < 0) = False := eq_false (by first | assumption | (have := KA.out; have := K1.out; omega))
      have kg0 : decide (a1 < 0) = false := decide_eq_false (by first | assumption | (have := KA.out; have := K1.out; omega))
      have kf1 : (a2 ≤ a1) = False := eq_false (by first | assumption | (have := KA.out; have := K1.out; omega))
      have kg1 : decide (a2 ≤ a1) = false := decide_eq_false (by first | assumption | (have := KA.out; have := K1.out; omega))
      have kf2 : (1000000 < a2) = True := eq_true (by first | assumption | (have := KA.out; have := K1.out; omega))
      have kg2 : decide (1000000 < a2) = true := decide_eq_true (by first | assumption | (have := KA.out; have := K1.out; omega))
      clear q0 q1 q2
      have h := H.out
      clear H
      by_cases kt : (t1, t2, t3) = ((0 : Int), (0 : Int), (2 : Int))
      rotate_left
      · rw [if_neg kt] at h
        cases h
      rw [if_pos kt] at h
      simp only [Prod.mk.injEq] at kt
      obtain ⟨rfl, rfl, rfl⟩ := kt
      have H := Aside0.mk h
      clear h
      go_wp2_with fail
      refine (HAW.out _ H.out).mono ?_
      rintro e w9 ⟨rfl, hB9⟩
      go_wp2
      go_ret
      exact ⟨rfl, below_step HB2.out hB9⟩
    rw [if_neg kq] at h
    exact absurd (Or.inr (Or.inr (Or.inl (by have := K1.out; have := KA.out; omega)))) kq

/-- THE ONE PURE STATEMENT of standstilllaw10_LoopAfter. -/
def standstilllaw10_LoopAfter.Pure : Prop := ∀ (a0_0 : Int) (a0_1 : Int) (l0_2 : List (List (S52))) (a1 : Int) (a2 : Int) (a3 : Bool) (a4 : Int), ((Lit.int .i64 a0_0).wf = true) → ((Lit.int .i64 a0_1).wf = true) → (l0_2.length * 24 ≤ 140737488351232 ∧ ∀ y_ ∈ l0_2, (y_.length * 24 ≤ 140737488351232 ∧ ∀ y__ ∈ y_, inv52 y__)) → ((Lit.int .i64 a1).wf = true) → ((Lit.int .i64 a2).wf = true) → ((Lit.int .i64 a4).wf = true) → ∃ k, standstilllaw10_LoopAfter.f k a0_0 a0_1 l0_2 a1 a2 a3 a4 = some true

end Go.Proofs.Ytngmdidegmbpfaa.PLoopAfter
